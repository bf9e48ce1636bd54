/- Words as texts, in plain Lean: which text a word is, if it is one's. It proves no statement. -/
import Derived.Test.YtflbkgpmepfhlaaDoorSayPure
import Derived.Lib.Bytealg
namespace Go.Proofs.YtflbkgpmepfhlaaDoor.SayPure
open Go.RowKit Go.Proofs.YtflbkgpmepfhlaaDoorW.PrintWords

/-- The number of a sign; none: it is no sign's. -/
def hexv (c : UInt8) : Option Nat := if 48 ≤ c.toNat ∧ c.toNat ≤ 57 then some (c.toNat - 48) else if 65 ≤ c.toNat ∧ c.toNat ≤ 70 then some (c.toNat - 55) else none
/-- What stands behind a word's first sign, as a text. -/
def body : List UInt8 → Option (List UInt8)
  | [] => some []
  | c :: l => if bareI (c.toNat : Int) = true then (body l).map (c :: ·) else if c = 37 then
      match l with
      | h :: d :: r => match hexv h, hexv d with
        | some x, some y => if bareI ((16 * x + y : Nat) : Int) = true then none else (body r).map ((16 * x + y).toUInt8 :: ·)
        | _, _ => none
      | _ => none
    else none
def text : List UInt8 → Option (List UInt8)
  | [] => none
  | c :: l => if c = 61 then body l else none

theorem body_bare {c : UInt8} (l : List UInt8) (h : bareI (c.toNat : Int) = true) : body (c :: l) = (body l).map (c :: ·) := by
  rcases l with _ | ⟨x, _ | ⟨y, r⟩⟩
  · simp [body, h]
  · simp [body, h]
  · simp [body, h]
theorem body_other {c : UInt8} (l : List UInt8) (h : bareI (c.toNat : Int) = false) (hc : c ≠ 37) : body (c :: l) = none := by
  rcases l with _ | ⟨x, _ | ⟨y, r⟩⟩
  · rw [body, if_neg (by simp [h]), if_neg hc]; simp
  · rw [body, if_neg (by simp [h]), if_neg hc]; simp
  · rw [body, if_neg (by simp [h]), if_neg hc]
theorem body_short (l : List UInt8) (h : l.length < 2) : body (37 :: l) = none := by
  rcases l with _ | ⟨x, _ | ⟨y, r⟩⟩
  · rw [body, if_neg (by decide), if_pos rfl]; simp
  · rw [body, if_neg (by decide), if_pos rfl]; simp
  · simp at h; omega
theorem body_hex (h d : UInt8) (r : List UInt8) : body (37 :: h :: d :: r) = match hexv h, hexv d with
        | some x, some y => if bareI ((16 * x + y : Nat) : Int) = true then none else (body r).map ((16 * x + y).toUInt8 :: ·)
        | _, _ => none := by
  rw [body, if_neg (by decide), if_pos rfl]
theorem hexv_lt {c : UInt8} {n : Nat} (h : hexv c = some n) : n < 16 := by
  unfold hexv at h
  split at h
  · injection h with h; omega
  · split at h
    · injection h with h; omega
    · cases h
def hexI (c : UInt8) : Int := match hexv c with
  | some n => (n : Int)
  | none => -1
theorem index_hex (c : UInt8) : Lib.indexByte [48, 49, 50, 51, 52, 53, 54, 55, 56, 57, 65, 66, 67, 68, 69, 70] c = hexI c := by
  have key : ∀ n : Fin 256, Lib.indexByte [48, 49, 50, 51, 52, 53, 54, 55, 56, 57, 65, 66, 67, 68, 69, 70] (UInt8.ofNat n.val) = hexI (UInt8.ofNat n.val) := by decide +kernel
  have := key ⟨c.toNat, c.toNat_lt⟩
  simpa using this
theorem or_hex (x y : Nat) (hx : x < 16) (hy : y < 16) : Go.bits .or .i64 ((x : Int) * 16) (y : Int) = ((16 * x + y : Nat) : Int) := by
  have key : ∀ a b : Fin 16, Go.bits .or .i64 ((a.val : Int) * 16) (b.val : Int) = ((16 * a.val + b.val : Nat) : Int) := by decide +kernel
  exact key ⟨x, hx⟩ ⟨y, hy⟩
theorem body_le : ∀ (n : Nat) (l t : List UInt8), l.length ≤ n → body l = some t → t.length ≤ l.length := by
  intro n
  induction n with
  | zero =>
    intro l t hl h
    have : l = [] := List.length_eq_zero_iff.1 (by omega)
    subst this
    simp [body] at h
    subst h
    simp
  | succ n ih =>
    intro l t hl h
    match l with
    | [] => simp [body] at h; subst h; simp
    | c :: l =>
      simp only [List.length_cons] at hl
      by_cases hb : bareI (c.toNat : Int) = true
      · rw [body_bare l hb, Option.map_eq_some_iff] at h
        obtain ⟨t', ht, rfl⟩ := h
        have := ih l t' (by omega) ht
        simp; omega
      · by_cases hc : c = 37
        · subst hc
          match l with
          | [] => rw [body_short [] (by simp)] at h; cases h
          | [x] => rw [body_short [x] (by simp)] at h; cases h
          | x :: y :: r =>
            rw [body_hex] at h
            simp only [List.length_cons] at hl ⊢
            split at h
            · split at h
              · cases h
              · rw [Option.map_eq_some_iff] at h
                obtain ⟨t', ht, rfl⟩ := h
                have := ih r t' (by omega) ht
                simp; omega
            · cases h
        · rw [body_other l (by simpa using hb) hc] at h; cases h
end Go.Proofs.YtflbkgpmepfhlaaDoor.SayPure
