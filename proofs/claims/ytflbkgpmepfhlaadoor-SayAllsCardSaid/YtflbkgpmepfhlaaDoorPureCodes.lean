/- The kinds' arguments, in plain Lean. -/
import Derived.Test.YtflbkgpmepfhlaaDoorPureForms
import Derived.Test.YtflbkgpmepfhlaaDoorFgharryref25args
namespace Go.Proofs.YtflbkgpmepfhlaaDoor.SayPure
open Go.RowKit Go.Proofs.YtflbkgpmepfhlaaDoor.HSay Go.Proofs.YtflbkgpmepfhlaaDoor.Hook Go.Proofs.YtflbkgpmepfhlaaDoorW.PrintWords
set_option linter.unusedVariables false
theorem dec_le : ∀ (k n : Nat), n < 10 ^ (k + 1) → (dec n).length ≤ k + 1 := by
  intro k
  induction k with
  | zero => intro n h; rw [dec, if_pos (by omega)]; simp
  | succ k ih =>
    intro n h
    rw [dec]
    split
    · simp
    · have : n / 10 < 10 ^ (k + 1) := by rw [Nat.pow_succ] at h; omega
      have := ih _ this
      simp only [List.length_append, List.length_singleton]
      omega
def codeN (b : Int) : Int := if b = 119 then 1 else if b = 110 then 2 else if b = 107 then 5 else if b = 118 then 6 else if b = 99 then 3 else if b = 109 then 4 else 7
def codes (s : ByteArray) : List Int := s.data.toList.map fun (u : UInt8) => codeN (u.toNat : Int)
theorem tables : ∀ j : Fin 22, 1 ≤ j.val → (say_form.f (j.val : Int)).map (fun (p : ByteArray × List Int) => p.2) = (gharryref25_args.f (j.val : Int)).map codes ∧ (gharryref25_args.f (j.val : Int)).isSome = true ∧ (((gharryref25_args.f (j.val : Int)).getD ⟨#[]⟩).size ≤ 5) ∧ (wd (j.val : Int)).size ≤ 20 := by decide +kernel
theorem table (j : Int) (h1 : 1 ≤ j) (h2 : j ≤ 21) : ∃ z : ByteArray, gharryref25_args.f j = some z ∧ say_form.f j = some (wd j, codes z) ∧ z.size ≤ 5 ∧ (wd j).size ≤ 20 := by
  have := tables ⟨j.toNat, by omega⟩ (by show 1 ≤ j.toNat; omega)
  simp only [show ((j.toNat : Nat) : Int) = j from by omega] at this
  obtain ⟨l, hl⟩ := form_name j h1 h2
  obtain ⟨z, hz⟩ := Option.isSome_iff_exists.1 this.2.1
  rw [hl, hz] at this
  have h3 := Option.some.inj this.1
  simp only at h3
  exact ⟨z, hz, by rw [hl, h3], by simpa using this.2.2.1, this.2.2.2⟩
end Go.Proofs.YtflbkgpmepfhlaaDoor.SayPure
