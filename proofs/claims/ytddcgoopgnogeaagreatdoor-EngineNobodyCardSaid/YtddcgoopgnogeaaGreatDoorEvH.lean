/- What the evaluator tells of the law. It proves no statement. -/
import Derived.Test.YtddcgoopgnogeaaGreatDoorEvI
import Derived.Test.YtddcgoopgnogeaaGreatDoorEvG
set_option linter.unusedVariables false
set_option linter.unusedSimpArgs false
set_option linter.unusedSectionVars false
set_option maxRecDepth 1000000
namespace Go.Proofs.YtddcgoopgnogeaaGreatDoor.Ev
open Go.Proofs
open Go.RowKit (Below)
set_option linter.unusedVariables false
def awakeTrue : Prop := ∀ w : World, Calls Tryz.prog 21 #[] w fun e w' => e = .returned (.bool true) ∧ Below w.heap.size w w'
noncomputable def spL (f : Nat) : Option FnC := if f = 21 then some trueFn else sp f
theorem spL_ok (hA : awakeTrue) {η : Env} {base : Nat} {W : World} (hD : η.D = []) (hη : Leaves η) : SpOk Tryz.prog η base W spL := by
  intro f s hs cb hcb args H v H' h ρ w hS hw
  unfold spL at hs
  split at hs
  · rename_i hf
    subst hf
    injection hs with hs
    subst hs
    exact trueFn_ok hA h hS hw
  · exact sp_ok hD hη f s hs cb hcb args H v H' h ρ w hS hw
theorem law_true : isTrue (evFn Tryz.prog spL 60 3 [.sym (.o 0), .sym (.o 1)] H0) = true := by kernel_rfl
theorem isTrue_some {r : Res} (h : isTrue r = true) : ∃ H, r = .some (.bool true) H := by
  cases r with
  | none => cases h
  | some v H =>
    have h : (Option.rec false (fun b => b) v.vb : Bool) = true := h
    cases hv : v.vb with
    | none => rw [hv] at h; cases h
    | some b =>
      rw [hv] at h
      have h : b = true := h
      subst h
      exact ⟨H, by rw [vb_some hv]⟩
theorem law_walk (hA : awakeTrue) (x0 : Int) (x1 : ByteArray) (w : World) : Calls Tryz.prog 3 #[.int .i64 x0, .string x1] w fun e w' => e = .returned (.bool true) ∧ Below w.heap.size w w' := by
  obtain ⟨H, h⟩ := isTrue_some law_true
  have hη : Leaves ⟨fun i => ([Value.int .i64 x0, Value.string x1] : List Value).getD i (.bool true), []⟩ := by
    intro i
    match i with
    | 0 => exact ⟨rfl, rfl⟩
    | 1 => exact ⟨rfl, rfl⟩
    | k + 2 => exact ⟨rfl, rfl⟩
  have := calls_of_ev (v := .bool true) rfl mixed hη (fun base W => spL_ok hA rfl hη) (fun x hx => by
    rcases List.mem_cons.1 hx with rfl | hx
    · exact .sym _
    obtain rfl := List.mem_singleton.1 hx
    exact .sym _) h w
  have e : (List.map (val ren0 ⟨fun i => ([Value.int .i64 x0, Value.string x1] : List Value).getD i (.bool true), []⟩) [.sym (.o 0), .sym (.o 1)]).toArray = #[.int .i64 x0, .string x1] := by simp [val, vals, symV]
  rw [e] at this
  refine this.mono ?_
  rintro e w' ⟨⟨ρ', rfl⟩, hb⟩
  exact ⟨by simp [val], hb⟩
end Go.Proofs.YtddcgoopgnogeaaGreatDoor.Ev
namespace Go.Proofs.YtddcgoopgnogeaaGreatDoor.Ev
open Go.Proofs
open Go.RowKit (Below)
set_option linter.unusedVariables false
set_option maxRecDepth 1000000
theorem awake_told : isTrue (evFn Tryz.prog sp 59 21 [] H0) = true := by kernel_rfl
theorem awake_true : awakeTrue := by
  intro w
  obtain ⟨H, h⟩ := isTrue_some awake_told
  have hη : Leaves ⟨fun _ => Value.bool true, []⟩ := fun _ => ⟨rfl, rfl⟩
  refine (calls_of_ev rfl mixed hη (fun base W => sp_ok rfl hη) (fun x hx => by cases hx) h w).mono ?_
  rintro e w' ⟨⟨ρ', rfl⟩, hb⟩
  exact ⟨by simp [val], hb⟩
end Go.Proofs.YtddcgoopgnogeaaGreatDoor.Ev
