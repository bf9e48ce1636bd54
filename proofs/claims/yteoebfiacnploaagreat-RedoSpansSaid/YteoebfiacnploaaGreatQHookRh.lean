/- The contract of rec.Of: the record that bytes without a frame are. It proves no statement. -/
import Derived.Test.YteoebfiacnploaaGreatQHookRh1
import Derived.Test.YteoebfiacnploaaGreatQHookRh3
import Derived.Test.YteoebfiacnploaaGreatQHookRh5
import Derived.Test.YteoebfiacnploaaGreatQHookRh7
import Derived.Test.YteoebfiacnploaaGreatQHookRh9
namespace Go.Proofs.YteoebfiacnploaaGreat.HRec
open Go.RowKit Go.Proofs.YteoebfiacnploaaGreatW.PrintWords Go.Proofs.YteoebfiacnploaaGreatW.PrintLast Go.Proofs.YteoebfiacnploaaGreatW.PrintMore
set_option linter.unusedVariables false
set_option linter.unusedSimpArgs false
theorem rec_Of.calls (a0 : ByteArray) (r1 r2 r3 r4 r5 : Int) (r6 r7 r8 : ByteArray) (r9 : Int) (r10 : List S144) (r11 : List S36) (r12 r13 r14 : Int) (w : World) (h : rec_Of.f a0 = some (r1, r2, r3, r4, r5, r6, r7, r8, r9, r10, r11, r12, r13, r14)) :
    Calls Tryz.prog 54 #[.string a0] w fun e w' => ∃ v9_ v10_ : Value, e = .returned (.tuple #[.agg #[.int .i64 r1, .int .i64 r2, .int .i64 r3, .int .i64 r4, .int .i64 r5, .string r6, .string r7, .string r8, .int .i64 r9, v9_, v10_, .int .i64 r12, .int .i64 r13], .int .i64 r14]) ∧ Kd.R k144 144 w' w.heap.size (fun _ => True) v9_ r10 ∧ Kd.R k36 36 w' w.heap.size (fun _ => True) v10_ r11 ∧ Below w.heap.size w w' := by
  unfold rec_Of.f at h
  replace h := Option.bind_eq_some_iff.mp h
  obtain ⟨⟨x0, a1, a2, a3⟩, ha, h⟩ := h
  by_cases h3 : a3 = 0
  · rw [if_pos h3] at h
    by_cases k12 : x0 = 1 ∨ x0 = 2
    · rw [if_pos k12] at h
      rcases k12 with rfl | rfl
      · exact of_1 a0 a1 a2 a3 r1 r2 r3 r4 r5 r6 r7 r8 r9 r10 r11 r12 r13 r14 w ha h3 h
      · exact of_2 a0 a1 a2 a3 r1 r2 r3 r4 r5 r6 r7 r8 r9 r10 r11 r12 r13 r14 w ha h3 h
    rw [if_neg k12] at h
    by_cases k6 : x0 = 6
    · rw [if_pos k6] at h
      subst k6
      exact of_6 a0 a1 a2 a3 r1 r2 r3 r4 r5 r6 r7 r8 r9 r10 r11 r12 r13 r14 w ha h3 h
    rw [if_neg k6] at h
    by_cases k3 : x0 = 3 ∨ x0 = 4 ∨ x0 = 5
    · rw [if_pos k3] at h
      rcases k3 with rfl | rfl | rfl
      · exact of_3 a0 a1 a2 a3 r1 r2 r3 r4 r5 r6 r7 r8 r9 r10 r11 r12 r13 r14 w ha h3 h
      · exact of_4 a0 a1 a2 a3 r1 r2 r3 r4 r5 r6 r7 r8 r9 r10 r11 r12 r13 r14 w ha h3 h
      · exact of_5 a0 a1 a2 a3 r1 r2 r3 r4 r5 r6 r7 r8 r9 r10 r11 r12 r13 r14 w ha h3 h
    rw [if_neg k3] at h
    by_cases k7 : x0 = 7 ∨ x0 = 8
    · rw [if_pos k7] at h
      rcases k7 with rfl | rfl
      · exact of_7 a0 a1 a2 a3 r1 r2 r3 r4 r5 r6 r7 r8 r9 r10 r11 r12 r13 r14 w ha h3 h
      · exact of_8 a0 a1 a2 a3 r1 r2 r3 r4 r5 r6 r7 r8 r9 r10 r11 r12 r13 r14 w ha h3 h
    rw [if_neg k7] at h
    by_cases k9 : x0 = 9
    · rw [if_pos k9] at h
      subst k9
      exact of_9 a0 a1 a2 a3 r1 r2 r3 r4 r5 r6 r7 r8 r9 r10 r11 r12 r13 r14 w ha h3 h
    rw [if_neg k9] at h
    by_cases k10 : x0 = 10
    · rw [if_pos k10] at h
      subst k10
      exact of_10 a0 a1 a2 a3 r1 r2 r3 r4 r5 r6 r7 r8 r9 r10 r11 r12 r13 r14 w ha h3 h
    rw [if_neg k10] at h
    exact of_0 a0 x0 a1 a2 a3 r1 r2 r3 r4 r5 r6 r7 r8 r9 r10 r11 r12 r13 r14 w ha (by omega) h3 (by subst h3; exact h)
  · rw [if_neg h3] at h
    exact of_err a0 x0 a1 a2 a3 r1 r2 r3 r4 r5 r6 r7 r8 r9 r10 r11 r12 r13 r14 w ha h3 h
end Go.Proofs.YteoebfiacnploaaGreat.HRec
