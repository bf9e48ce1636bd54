/- Two logs that were one for up to 5 epochs, and parted for up to 5 more each, meet where they part: told by the other one 20 times at most, one keeps no more than what both have. No condition beyond the statement's own guard. -/
import Derived.Test.YtflbkgpmepfhlaaPRedoMeetsx2
namespace Go.Proofs.Ytflbkgpmepfhlaa.Pure
open Go.RowKit Go.Proofs.Ytflbkgpmepfhlaa.PRedoMeets Go.Proofs.YtflbkgpmepfhlaaW.PrintWords Go.Proofs.YtflbkgpmepfhlaaW.PrintLast

/-- Does the law tell true at one input, with 300 rounds? -/
def meetsAt (c a b e : Nat) : Bool := gharrylaw15_RedoMeets.f 300 ((c : Int) + 1) (a : Int) (b : Int) (e : Int) == some true

theorem meets_all : ∀ c < 5, ∀ a < 6, ∀ b < 6, ∀ e < 10, meetsAt c a b e = true := by
  decide +kernel

theorem awake_true : gharrylaw15_awake.f 6 = some true := by
  decide +kernel

theorem meets_out (a0 a1 a2 a3 : Int) : gharrylaw15_RedoMeets.j0 7 a0 a1 a2 a3 true = some true := by
  simp only [gharrylaw15_RedoMeets.j0]
  rw [awake_true]
  rfl

theorem RedoMeets : gharrylaw15_RedoMeets.Pure := by
  intro a0 a1 a2 a3 _ _ _ _
  by_cases h : 1 ≤ a0 ∧ a0 ≤ 5 ∧ 0 ≤ a1 ∧ a1 ≤ 5 ∧ 0 ≤ a2 ∧ a2 ≤ 5 ∧ 0 ≤ a3 ∧ a3 ≤ 9
  · obtain ⟨h0, h1, h2, h3, h4, h5, h6, h7⟩ := h
    refine ⟨300, ?_⟩
    have H := meets_all (a0 - 1).toNat (by omega) a1.toNat (by omega) a2.toNat (by omega) a3.toNat (by omega)
    unfold meetsAt at H
    rw [show (((a0 - 1).toNat : Nat) : Int) + 1 = a0 from by omega, show ((a1.toNat : Nat) : Int) = a1 from by omega,
      show ((a2.toNat : Nat) : Int) = a2 from by omega, show ((a3.toNat : Nat) : Int) = a3 from by omega] at H
    exact eq_of_beq H
  · refine ⟨7, ?_⟩
    unfold gharrylaw15_RedoMeets.f
    have hO := meets_out a0 a1 a2 a3
    by_cases c0 : a0 < 1
    · rw [if_pos c0]; exact hO
    rw [if_neg c0]
    by_cases c1 : a0 > 5
    · rw [if_pos c1]; exact hO
    rw [if_neg c1]
    by_cases c2 : a1 < 0
    · rw [if_pos c2]; exact hO
    rw [if_neg c2]
    by_cases c3 : a1 > 5
    · rw [if_pos c3]; exact hO
    rw [if_neg c3]
    by_cases c4 : a2 < 0
    · rw [if_pos c4]; exact hO
    rw [if_neg c4]
    by_cases c5 : a2 > 5
    · rw [if_pos c5]; exact hO
    rw [if_neg c5]
    by_cases c6 : a3 < 0
    · rw [if_pos c6]; exact hO
    rw [if_neg c6]
    have c7 : decide (a3 > 9) = true := by
      simp only [decide_eq_true_eq]
      omega
    rw [c7]; exact hO

end Go.Proofs.Ytflbkgpmepfhlaa.Pure
