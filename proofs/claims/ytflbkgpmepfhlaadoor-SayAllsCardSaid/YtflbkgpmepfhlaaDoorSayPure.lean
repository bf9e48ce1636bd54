/- Texts as words, in plain Lean: which bytes stand for themselves, a text's word. It proves no statement. -/
import Derived.Test.YtflbkgpmepfhlaaDoorWall
namespace Go.Proofs.YtflbkgpmepfhlaaDoor.SayPure
open Go.RowKit Go.Proofs.YtflbkgpmepfhlaaDoorW.PrintWords

/-- Does a byte stand for itself? -/
def bareI (c : Int) : Bool := decide ((97 ≤ c ∧ c ≤ 122) ∨ (65 ≤ c ∧ c ≤ 90) ∨ (48 ≤ c ∧ c ≤ 57) ∨ c = 45 ∨ c = 95)
/-- The sign of a number from 0 to 15. -/
def hexd (n : Nat) : UInt8 := if n < 10 then (48 + n).toUInt8 else (55 + n).toUInt8
def enc1 (c : UInt8) : List UInt8 := if bareI (c.toNat : Int) = true then [c] else [37, hexd (c.toNat / 16), hexd (c.toNat % 16)]
def word (l : List UInt8) : List UInt8 := 61 :: l.flatMap enc1

theorem enc1_le (c : UInt8) : (enc1 c).length ≤ 3 := by unfold enc1; split <;> simp
theorem word_le (l : List UInt8) : (word l).length ≤ 1 + 3 * l.length := by
  unfold word
  have : (l.flatMap enc1).length ≤ 3 * l.length := by
    induction l with
    | nil => simp
    | cons c l ih =>
      simp only [List.flatMap_cons, List.length_append, List.length_cons]
      have := enc1_le c
      omega
  simp only [List.length_cons]
  omega
theorem take_snoc (l : List UInt8) (k : Nat) (h : k < l.length) : l.take (k + 1) = l.take k ++ [l[k]] := by
  rw [List.take_succ_eq_append_getElem h]
theorem word_snoc (l : List UInt8) (k : Nat) (h : k < l.length) : word (l.take (k + 1)) = word (l.take k) ++ enc1 l[k] := by
  rw [take_snoc l k h]
  show 61 :: (l.take k ++ [l[k]]).flatMap enc1 = (61 :: (l.take k).flatMap enc1) ++ enc1 l[k]
  rw [List.flatMap_append]
  simp
theorem byte_of_bt (s : ByteArray) (k : Nat) (h : k < s.size) : bt s (k : Int) = ((s.data.toList[k]'(by rw [data_length]; exact h)).toNat : Int) := by
  unfold bt
  rw [dif_pos (by simpa using h)]
  simp
  rfl
end Go.Proofs.YtflbkgpmepfhlaaDoor.SayPure
