/- What the evaluator tells of the law. It proves no statement. -/
import Derived.Test.YtomicolllbhdaaaGreatEvF
import Derived.Test.YtomicolllbhdaaaGreatEvG
set_option linter.unusedVariables false
set_option linter.unusedSimpArgs false
set_option linter.unusedSectionVars false
set_option maxRecDepth 1000000
namespace Go.Proofs.YtomicolllbhdaaaGreat.Ev
open Go.Proofs
open Go.RowKit (Below)
set_option linter.unusedVariables false
def awakeTrue : Prop := ∀ w : World, Calls Tryz.prog 18 #[] w fun e w' => e = .returned (.bool true) ∧ Below w.heap.size w w'
noncomputable def spL (f : Nat) : Option FnC := if f = 18 then some trueFn else sp f
theorem spL_ok (hA : awakeTrue) {η : Nat → Value} {base : Nat} {W : World} (hη : Leaves η) : SpOk Tryz.prog η base W spL := by
  intro f s hs cb hcb args H v H' h ρ w hS hw
  unfold spL at hs
  split at hs
  · rename_i hf
    subst hf
    injection hs with hs
    subst hs
    exact trueFn_ok hA h hS hw
  · exact sp_ok hη f s hs cb hcb args H v H' h ρ w hS hw
theorem law_true : isTrue (evFn Tryz.prog spL 60 3 [.sym 0, .sym 1] H0) = true := by kernel_rfl
theorem isTrue_some {r : Res} (h : isTrue r = true) : ∃ H, r = .some (.bool true) H := by
  cases r with
  | none => cases h
  | some v H =>
    have h : (Option.rec false (fun b => b) v.vb : Bool) = true := h
    cases hv : v.vb with
    | none => rw [hv] at h; cases h
    | some b =>
      rw [hv] at h
      have h : b = true := h
      subst h
      exact ⟨H, by rw [vb_some hv]⟩
theorem law_walk (hA : awakeTrue) (n : Int) (s : ByteArray) (w : World) : Calls Tryz.prog 3 #[.int .i64 n, .string s] w fun e w' => e = .returned (.bool true) ∧ Below w.heap.size w w' := by
  obtain ⟨H, h⟩ := isTrue_some law_true
  have hη : Leaves (fun i => if i = 0 then Value.int .i64 n else .string s) := by
    intro i
    by_cases h : i = 0
    · simp only [h, if_true]; exact ⟨rfl, rfl⟩
    · simp only [h, if_false]; exact ⟨rfl, rfl⟩
  have := calls_of_ev mixed hη (fun base W => spL_ok hA hη) (fun x hx => by
    rcases List.mem_cons.1 hx with rfl | hx
    · exact .sym 0
    · obtain rfl := List.mem_singleton.1 hx
      exact .sym 1) h w
  have e : (List.map (val ren0 (fun i => if i = 0 then Value.int .i64 n else .string s)) [.sym 0, .sym 1]).toArray = #[.int .i64 n, .string s] := by simp [val]
  rw [e] at this
  refine this.mono ?_
  rintro e w' ⟨⟨ρ', rfl⟩, hb⟩
  exact ⟨by simp [val], hb⟩
end Go.Proofs.YtomicolllbhdaaaGreat.Ev
namespace Go.Proofs.YtomicolllbhdaaaGreat.Ev
open Go.Proofs
open Go.RowKit (Below)
set_option linter.unusedVariables false
set_option maxRecDepth 1000000
theorem awake_told : isTrue (evFn Tryz.prog sp 59 18 [] H0) = true := by kernel_rfl
theorem awake_true : awakeTrue := by
  intro w
  obtain ⟨H, h⟩ := isTrue_some awake_told
  have hη : Leaves (fun _ => Value.bool true) := fun _ => ⟨rfl, rfl⟩
  refine (calls_of_ev mixed hη (fun base W => sp_ok hη) (fun x hx => by cases hx) h w).mono ?_
  rintro e w' ⟨⟨ρ', rfl⟩, hb⟩
  exact ⟨by simp [val], hb⟩
end Go.Proofs.YtomicolllbhdaaaGreat.Ev
