/- How much of a log stays, in plain numbers: what redo.Keep answers, and what the statement reckons. -/
import Derived.Test.YtflbkgpmepfhlaaPRedoKeepsx1
namespace Go.Proofs.Ytflbkgpmepfhlaa.Keeps
open Go.RowKit Go.Proofs.Ytflbkgpmepfhlaa.PRedoKeeps Go.Proofs.YtflbkgpmepfhlaaW.PrintWords Go.Proofs.YtflbkgpmepfhlaaW.PrintLast

/-- How many spans at the head are of epochs not above e. -/
def cnt (l : List S26) (e : Int) : Nat := (l.takeWhile fun s => decide (s.f0 ≤ e)).length
theorem cnt_le (l : List S26) (e : Int) : cnt l e ≤ l.length := (List.takeWhile_prefix _).length_le
theorem cnt_yes (l : List S26) (e : Int) : ∀ i : Nat, i < cnt l e → (rd_T26 l (i : Int)).f0 ≤ e := by
  unfold rd_T26 cnt
  induction l with
  | nil => intro i h; simp at h
  | cons a l ih =>
    intro i h
    rw [List.takeWhile_cons] at h
    by_cases ha : decide (a.f0 ≤ e) = true
    · rw [if_pos ha] at h
      cases i with
      | zero => simpa using ha
      | succ i =>
        have := ih i (by simp at h; simpa using h)
        simpa using this
    · rw [if_neg ha] at h
      simp at h
theorem cnt_no (l : List S26) (e : Int) : cnt l e < l.length → ¬ (rd_T26 l (cnt l e : Int)).f0 ≤ e := by
  unfold rd_T26 cnt
  induction l with
  | nil => intro h; simp at h
  | cons a l ih =>
    intro h
    rw [List.takeWhile_cons] at h ⊢
    by_cases ha : decide (a.f0 ≤ e) = true
    · rw [if_pos ha] at h ⊢
      have := ih (by simpa using h)
      simpa using this
    · rw [if_neg ha]
      simpa using ha

/-- What stays: no more than w, and nothing from the first span of a later epoch on. -/
def keepOf (l : List S26) (e w : Int) : Int := if cnt l e < l.length then mn w (rd_T26 l (cnt l e : Int)).f1 else w

theorem keep_l0 (l : List S26) (e w : Int) (hl : l.length ≤ 9223372036854775807) : ∀ (d i : Nat), i + d = cnt l e →
    redo_Keep.l0 (d + 1) e w l (l.length : Int) (i : Int) = some (keepOf l e w) := by
  intro d
  induction d with
  | zero =>
    intro i hi
    obtain rfl : i = cnt l e := by omega
    have hc := cnt_le l e
    simp only [redo_Keep.l0]
    by_cases h : cnt l e < l.length
    · have hn := cnt_no l e h
      rw [if_pos (by omega), if_pos (by omega), if_pos (by omega), if_pos (by omega)]
      unfold keepOf
      rw [if_pos h]
    · rw [if_neg (by omega)]
      unfold keepOf
      rw [if_neg h]
  | succ d ih =>
    intro i hi
    have hc := cnt_le l e
    have hy := cnt_yes l e i (by omega)
    have hw : wrap64 ((i : Int) + 1) = ((i + 1 : Nat) : Int) := by unfold wrap64; omega
    rw [redo_Keep.l0, if_pos (by omega), if_pos (by omega), if_pos (by omega), if_neg (by omega), hw]
    exact ih (i + 1) (by omega)

theorem keep_f (l : List S26) (e a en : Int) (hl : l.length ≤ 9223372036854775807) : redo_Keep.f (cnt l e + 1) l e a en = some (keepOf l e (mn a en)) :=
  keep_l0 l e (mn a en) hl (cnt l e) 0 (by omega)

theorem keep_facts (l : List S26) (e w j : Int) (h : j = (cnt l e : Int)) :
    (j < (l.length : Int) → ¬ (rd_T26 l j).f0 ≤ e ∧ keepOf l e w = mn w (rd_T26 l j).f1) ∧ (¬ j < (l.length : Int) → keepOf l e w = w) := by
  subst h
  refine ⟨fun h => ⟨cnt_no l e (by omega), ?_⟩, fun h => ?_⟩
  · unfold keepOf
    rw [if_pos (by omega)]
  · unfold keepOf
    rw [if_neg (by omega)]

theorem awake_f : gharrylaw15_awake.f 6 = some true := by decide +kernel

end Go.Proofs.Ytflbkgpmepfhlaa.Keeps
