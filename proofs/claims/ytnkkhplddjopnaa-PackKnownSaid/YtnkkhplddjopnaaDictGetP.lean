/- Layer 15: what Get reads, plainly. -/
import Derived.Test.YtnkkhplddjopnaaDictBytes
set_option linter.unusedVariables false
set_option linter.unusedSimpArgs false
namespace Go.Proofs.Ytnkkhplddjopnaa
/-- One text: an error, or the text and how many bytes it took. -/
def takeT (most : Int) (b : List UInt8) : Except Nat (ByteArray × Nat) :=
  if (get b).2.2 ≠ 0 then .error (get b).2.2
  else if most < 0 ∨ most < ((get b).1 : Int) then .error 5
  else if b.length - (get b).2.1 < (get b).1 then .error 3
  else .ok (txt ((b.drop (get b).2.1).take (get b).1), (get b).2.1 + (get b).1)
theorem takeTexts_succ (most : Int) (k : Nat) (b : List UInt8) (d : List ByteArray) : takeTexts most (k + 1) b d = match takeT most b with
    | .error e => .error e
    | .ok (s, n) => if (placeL d s).isSome then .error 150 else takeTexts most k (b.drop n) (d ++ [s]) := by
  rw [takeTexts]
  unfold takeT
  by_cases h1 : (get b).2.2 ≠ 0
  · rw [if_pos h1, if_pos h1]
  · rw [if_neg h1, if_neg h1]
    by_cases h2 : most < 0 ∨ most < ((get b).1 : Int)
    · rw [if_pos h2, if_pos h2]
    · rw [if_neg h2, if_neg h2, List.length_drop]
      by_cases h3 : b.length - (get b).2.1 < (get b).1
      · rw [if_pos h3, if_pos h3]
      · rw [if_neg h3, if_neg h3]
        simp only [List.drop_drop]
/-- The dictionary: an error, or its texts and what is left. -/
def dictL (xs : List UInt8) (n : Nat) (most : Int) : Except Nat (List ByteArray × List UInt8) :=
  if (get xs).2.2 ≠ 0 then .error (get xs).2.2
  else if n < (get xs).1 then .error 5
  else takeTexts most (get xs).1 (xs.drop (get xs).2.1) []
/-- What Get hands back: an error, or texts and how many bytes were read. -/
def getN (xs : List UInt8) (n : Nat) (most : Int) : Except Nat (List ByteArray × Nat) :=
  match dictL xs n most with
  | .error e => .error e
  | .ok (d, r) => match takeNums d.length n r 0 [] with
    | .error e => .error e
    | .ok (u, ns, q) => if u < d.length then .error 150 else .ok (ns.filterMap (d[·]?), xs.length - q.length)
def getDI (xs : List UInt8) (n most : Int) : Except Nat (List ByteArray × Nat) :=
  if n < 0 ∨ 1048576 < n then .error 6 else getN xs n.toNat most
end Go.Proofs.Ytnkkhplddjopnaa
