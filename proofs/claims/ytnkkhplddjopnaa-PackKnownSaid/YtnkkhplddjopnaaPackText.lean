/- Layer 3, walked: the program's reader: Text. -/
import Derived.Test.YtnkkhplddjopnaaPackRaw
set_option linter.unusedVariables false
set_option linter.unusedSimpArgs false
namespace Go.Proofs.Ytnkkhplddjopnaa
open Go.RowKit
/-- What a text takes. -/
def textE (most : Int) (b : List UInt8) : Except Nat Nat := match takeT most b with
  | .error e => .error e
  | .ok (_, n) => .ok n
def TextG (most : Int) (b : List UInt8) (v : Value) (_ : World) : Prop := ∃ s n, takeT most b = .ok (s, n) ∧ v = .string s
theorem TextG.keep {most : Int} {b : List UInt8} {v : Value} {w w' : World} (h : TextG most b v w) : TextG most b v w' := h
theorem readT_err {most : Int} {b : List UInt8} {m er : Nat} {w w' : World} {z : Value} {k : Int} (h : takeT most b = .error er) (he : er ≠ 0) (hb : Below w.heap.size w w') :
    ReadP (textE most b) m (TextG most b) w (.returned (.tuple #[z, .int .i64 k, .int .i64 (er : Int)])) w' := ⟨hb, .inl ⟨er, z, k, he, by unfold textE; rw [h], rfl⟩⟩
theorem readT_ok {most : Int} {b : List UInt8} {m n : Nat} {s : ByteArray} {w w' : World} {k : Int} (h : takeT most b = .ok (s, n)) (hn : n ≤ m) (hk : k = (n : Int)) (hb : Below w.heap.size w w') :
    ReadP (textE most b) m (TextG most b) w (.returned (.tuple #[.string s, .int .i64 k, .int .i64 0])) w' := by
  subst hk
  exact ⟨hb, .inr ⟨_, n, by unfold textE; rw [h], hn, ⟨s, n, h, rfl⟩, rfl⟩⟩
set_option maxRecDepth 100000 in
set_option maxHeartbeats 1000000 in
theorem text1_any (A : Option Addr) (m c : Nat) (r : List UInt8) (most : Int) (ca : Addr) (w : World) (hr : Reads w w.heap.size 1 A m (u8s r)) (hm : m ≤ c) (hc : c ≤ maxLen) (hcell : w.cell? ca = some (.int .i64 most)) (hcb : ca.block < w.heap.size) (hm2 : m ≤ 1099511627776) (hmo : most ≤ 9223372036854775807) :
    Calls Try.prog 73 #[.slice A m c, .pointer (some ca)] w (ReadP (textE most r) m (TextG most r) w) := by
  have hrl := reads_len hr
  have Hrl := Lib.hid hrl
  have hgs := get_size3 r
  rw [hrl] at hgs
  have htk : takeT most r = takeT most r := rfl
  conv at htk => rhs; unfold takeT
  rw [hrl] at htk
  have hget := get_any A m c r w hr hm hc
  generalize get r = q at hgs htk hget
  obtain ⟨rn, rk, re⟩ := q
  obtain ⟨hk1, hk2, hk3, hk4⟩ := hgs
  simp only [gotten] at hk1 hk2 hk3 hk4 hget htk
  have Hget := Lib.hid hget
  clear hget hrl
  go_enter Try.func73, Try.ntmps73
  go_wp2_with fail
  with_reducible refine (Hget.out).mono ?_
  rintro e w' ⟨rfl, rfl⟩
  by_cases hre : re = 0
  · subst hre
    rw [if_neg (by simp)] at htk
    by_cases hlim : most < 0 ∨ most < (rn : Int)
    · rw [if_pos hlim] at htk
      have Htk := Lib.hid htk
      clear htk hk4
      by_cases hm0 : most < 0
      · go_wp2
        go_ret3
        exact readT_err Htk.out (by decide) (Below.refl _ _)
      · obtain ⟨mo, rfl⟩ := Int.eq_ofNat_of_zero_le (by omega : 0 ≤ most)
        have db : decide ((mo : Int) < (rn : Int)) = true := by simp; omega
        go_wp2
        go_ret3
        exact readT_err Htk.out (by decide) (Below.refl _ _)
    · rw [if_neg hlim] at htk
      obtain ⟨mo, rfl⟩ := Int.eq_ofNat_of_zero_le (by omega : 0 ≤ most)
      have db : decide ((mo : Int) < (rn : Int)) = false := by simp; omega
      have hmn : rn ≤ mo := by omega
      clear hlim hk4
      by_cases hlen : m - rk < rn
      · rw [if_pos hlen] at htk
        have Htk := Lib.hid htk
        clear htk
        go_wp2
        go_ret3
        exact readT_err Htk.out (by decide) (Below.refl _ _)
      · rw [if_neg hlen] at htk
        have Htk := Lib.hid htk
        clear htk
        have hrm : rn ≤ 1099511627776 := by omega
        obtain ⟨en, hen⟩ : ∃ en, rk + rn = en := ⟨_, rfl⟩
        have henI : (rk : Int) + (rn : Int) = (en : Int) := by omega
        have Hen := Lib.hid hen
        have h1 : rk ≤ en := by omega
        have h2 : en ≤ m := by omega
        have h3 : en ≤ c := by omega
        have hcut := hr.cut (k := rk) (cap := c) hk1 hm
        rw [Nat.mul_one, u8s_drop] at hcut
        have hhead := hcut.head (k := en - rk) (by omega)
        rw [Nat.mul_one, u8s_take] at hhead
        obtain ⟨A2, hA2⟩ : ∃ A2, (if c = rk then A else Option.map (fun x => x.add rk) A) = A2 := ⟨_, rfl⟩
        rw [hA2] at hhead
        have hC := run_bytes_string w 32 9 5 Try.underlying32 Try.underlying5 Try.underlying9 _ A2 (en - rk) (c - rk) _ hhead
        have Htxt := Lib.hid (show txt ((r.drop rk).take (en - rk)) = txt ((r.drop rk).take rn) from by rw [← hen, Nat.add_sub_cancel_left])
        change _ = Result.ok (Value.string (txt ((r.drop rk).take (en - rk)))) w at hC
        rw [Htxt.out] at hC
        generalize txt ((r.drop rk).take rn) = s at hC Htk
        clear hcut hhead hen hr
        go_wp2
        go_ret3
        exact readT_ok Htk.out (by have := Hen.out; omega) (by have := Hen.out; omega) (Below.refl _ _)
  · rw [if_pos hre] at htk
    have hn : ((re : Int) == 0) = false := by simp; omega
    have hn2 : ((re : Int) != 0) = true := by simp; omega
    have Htk := Lib.hid htk
    have Hre := Lib.hid hre
    clear htk hk4 hre
    go_wp2
    go_ret3
    exact readT_err Htk.out Hre.out (Below.refl _ _)
def textA (xs : List UInt8) (p e : Nat) (most : Int) : ByteArray × Nat × Nat :=
  if e ≠ 0 then (⟨#[]⟩, p, e) else match takeT most (xs.drop p) with
    | .error er => (⟨#[]⟩, p, er)
    | .ok (s, n) => (s, p + n, 0)
set_option maxRecDepth 100000 in
set_option maxHeartbeats 400000 in
theorem ptext_any (g : Nat) (xs : List UInt8) (p e : Nat) (most : Int) (w : World) (h : PRd w g xs p e) (hl : xs.length ≤ 1099511627776) (hmo : most ≤ 9223372036854775807) :
    Calls Try.prog 52 #[.pointer (some ⟨g, 0, none⟩), .int .i64 most] w (Asked g xs (.string (textA xs p e most).1) (textA xs p e most).2.1 (textA xs p e most).2.2 w) := by
  have hglt := h.lt
  have H := Lib.hid h
  clear h
  by_cases he : e = 0
  · subst he
    have hv : textA xs p 0 most = textA xs p 0 most := rfl
    conv at hv => rhs; unfold textA; rw [if_neg (by simp)]
    have Hv := Lib.hid hv
    clear hv
    go_enter Try.func52, Try.ntmps52
    go_wp2_with fail
    have hb1 : Below w.heap.size w (w.alloc (.cells #[.int .i64 most] 3)) := (Below.refl _ _).alloc (Nat.le_refl _) _
    with_reducible refine (takeT_any g xs p (textE most (xs.drop p)) (TextG most (xs.drop p)) ⟨w.heap.size, 0, none⟩ _ (H.out.on hb1) (by omega) (fun v a b h _ hg => h.keep) ?_).mono ?_
    · intro A c hr h1 h2
      exact text1_any A (xs.length - p) c (xs.drop p) most ⟨w.heap.size, 0, none⟩ _ hr h1 h2 (by simp) (by simp) (by omega) hmo
    · rintro e w2 ⟨hg, hcase⟩
      have hg0 : w.grownBy w2 (some g) := (below_grown hb1).trans hg
      rcases hcase with ⟨er, her, hres, rfl, hp⟩ | ⟨v, k, hres, ⟨s, n, hs, rfl⟩, rfl, hpn, hp⟩
      · have hv : textA xs p 0 most = (⟨#[]⟩, p, er) := by
          rw [Hv.out]
          unfold textE at hres
          rcases ht : takeT most (xs.drop p) with e2 | ⟨s, n⟩
          · rw [ht] at hres
            injection hres with hres
            rw [hres]
          · rw [ht] at hres
            cases hres
        have Hv2 := Lib.hid hv
        clear hv hres her hb1
        go_wp2
        go_ret
        unfold Asked
        rw [Hv2.out]
        exact ⟨rfl, hg0, hp⟩
      · have hv : textA xs p 0 most = (s, p + n, 0) := by rw [Hv.out, hs]
        have hkn : k = n := by
          unfold textE at hres
          rw [hs] at hres
          injection hres with hres
          exact hres.symm
        subst hkn
        have Hv2 := Lib.hid hv
        clear hv hres hs hb1
        go_wp2
        go_ret
        unfold Asked
        rw [Hv2.out]
        exact ⟨rfl, hg0, hp⟩
  · have hv : textA xs p e most = (⟨#[]⟩, p, e) := by unfold textA; rw [if_pos he]
    have Hv := Lib.hid hv
    have He := Lib.hid he
    clear hv he
    have hb1 : Below w.heap.size w (w.alloc (.cells #[.int .i64 most] 3)) := (Below.refl _ _).alloc (Nat.le_refl _) _
    have H1 := Lib.hid (H.out.on hb1)
    go_enter Try.func52, Try.ntmps52
    go_wp2_with fail
    with_reducible refine (takeT_err g xs p e _ _ H1.out He.out).mono ?_
    rintro e w2 ⟨rfl, rfl⟩
    have hg0 : w.grownBy _ (some g) := below_grown hb1
    clear hb1
    go_wp2
    go_ret
    unfold Asked
    rw [Hv.out]
    exact ⟨rfl, hg0, H1.out⟩
end Go.Proofs.Ytnkkhplddjopnaa
