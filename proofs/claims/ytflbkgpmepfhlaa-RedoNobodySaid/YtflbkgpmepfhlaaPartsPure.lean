/- Where a list of spans parts from an epoch, in plain numbers: what redo.Part answers, and what the statement reckons. -/
import Derived.Test.YtflbkgpmepfhlaaPRedoPartsx1
namespace Go.Proofs.Ytflbkgpmepfhlaa.Parts
open Go.RowKit Go.Proofs.Ytflbkgpmepfhlaa.PRedoParts Go.Proofs.YtflbkgpmepfhlaaW.PrintWords Go.Proofs.YtflbkgpmepfhlaaW.PrintLast

/-- How many spans at the head are of epochs not above e. -/
def cnt (l : List S26) (e : Int) : Nat := (l.takeWhile fun s => decide (s.f0 ≤ e)).length
theorem cnt_le (l : List S26) (e : Int) : cnt l e ≤ l.length := (List.takeWhile_prefix _).length_le
theorem cnt_yes (l : List S26) (e : Int) : ∀ i : Nat, i < cnt l e → (rd_T26 l (i : Int)).f0 ≤ e := by
  unfold rd_T26 cnt
  induction l with
  | nil => intro i h; simp at h
  | cons a l ih =>
    intro i h
    rw [List.takeWhile_cons] at h
    by_cases ha : decide (a.f0 ≤ e) = true
    · rw [if_pos ha] at h
      cases i with
      | zero => simpa using ha
      | succ i =>
        have := ih i (by simp at h; simpa using h)
        simpa using this
    · rw [if_neg ha] at h
      simp at h
theorem cnt_no (l : List S26) (e : Int) : cnt l e < l.length → ¬ (rd_T26 l (cnt l e : Int)).f0 ≤ e := by
  unfold rd_T26 cnt
  induction l with
  | nil => intro h; simp at h
  | cons a l ih =>
    intro h
    rw [List.takeWhile_cons] at h ⊢
    by_cases ha : decide (a.f0 ≤ e) = true
    · rw [if_pos ha] at h ⊢
      have := ih (by simpa using h)
      simpa using this
    · rw [if_neg ha]
      simpa using ha

/-- The epoch, and the place, ahead of the span i, where i of them are not above the epoch asked. -/
def lastOf (l : List S26) (i : Nat) : Int := if i = 0 then 0 else (rd_T26 l ((i : Int) - 1)).f0
def atOf (l : List S26) (en : Int) (i : Nat) : Int := if i = 0 then 1 else if i < l.length then (rd_T26 l (i : Int)).f1 else en
def partLast (l : List S26) (e : Int) : Int := lastOf l (cnt l e)
def partAt (l : List S26) (e en : Int) : Int := mn (atOf l en (cnt l e)) en

theorem part_l0 (l : List S26) (e en : Int) (hl : l.length ≤ 9223372036854775807) : ∀ (d i : Nat), i + d = cnt l e →
    redo_Part.l0 (d + 1) l e en (lastOf l i) (atOf l en i) l (l.length : Int) (i : Int) = some (partLast l e, partAt l e en) := by
  intro d
  induction d with
  | zero =>
    intro i hi
    obtain rfl : i = cnt l e := by omega
    have hc := cnt_le l e
    simp only [redo_Part.l0]
    by_cases h : cnt l e < l.length
    · have hn := cnt_no l e h
      rw [if_pos (by omega), if_pos (by omega), if_pos (by omega), if_pos (by omega)]
      rfl
    · rw [if_neg (by omega)]
      rfl
  | succ d ih =>
    intro i hi
    have hc := cnt_le l e
    have hy := cnt_yes l e i (by omega)
    have hw : wrap64 ((i : Int) + 1) = ((i + 1 : Nat) : Int) := by unfold wrap64; omega
    have hw2 : wrap64 ((l.length : Int) - 1) = (l.length : Int) - 1 := by unfold wrap64; omega
    have := ih (i + 1) (by omega)
    rw [redo_Part.l0, if_pos (by omega), if_pos (by omega), if_pos (by omega), if_neg (by omega), hw2, hw]
    have e1 : lastOf l (i + 1) = (rd_T26 l (i : Int)).f0 := by
      unfold lastOf
      rw [if_neg (by omega), show (((i + 1 : Nat) : Int) - 1) = (i : Int) from by omega]
    by_cases h : (i : Int) < (l.length : Int) - 1
    · rw [if_pos h, if_pos (by omega), if_pos (by omega), ← this, e1]
      unfold atOf
      rw [if_neg (by omega), if_pos (by omega)]
    · rw [if_neg h, ← this, e1]
      unfold atOf
      rw [if_neg (by omega), if_neg (by omega)]

theorem part_f (l : List S26) (e en : Int) (hl : l.length ≤ 9223372036854775807) : redo_Part.f (cnt l e + 1) l e en = some (partLast l e, partAt l e en) := by
  have := part_l0 l e en hl (cnt l e) 0 (by omega)
  exact this

/-- What stands at the head's end j, said in numbers. -/
theorem parts_facts (l : List S26) (e en j : Int) (h : j = (cnt l e : Int)) :
    (j < (l.length : Int) → ¬ (rd_T26 l j).f0 ≤ e) ∧
    (¬ 0 < j → partLast l e = 0 ∧ partAt l e en = mn 1 en) ∧
    (0 < j → partLast l e = (rd_T26 l (j - 1)).f0 ∧ (j < (l.length : Int) → partAt l e en = mn (rd_T26 l j).f1 en) ∧ (¬ j < (l.length : Int) → partAt l e en = mn en en)) := by
  subst h
  refine ⟨fun h => cnt_no l e (by omega), fun h => ?_, fun h => ⟨?_, fun h1 => ?_, fun h1 => ?_⟩⟩
  · have hz : cnt l e = 0 := by omega
    unfold partLast partAt lastOf atOf
    rw [if_pos hz, if_pos hz]
    exact ⟨rfl, rfl⟩
  · unfold partLast lastOf
    rw [if_neg (by omega)]
  · unfold partAt atOf
    rw [if_neg (by omega), if_pos (by omega)]
  · unfold partAt atOf
    rw [if_neg (by omega), if_neg (by omega)]

theorem awake_f : gharrylaw15_awake.f 6 = some true := by decide +kernel

end Go.Proofs.Ytflbkgpmepfhlaa.Parts
