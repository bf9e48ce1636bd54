/- Records that come in, read as plain Lean values; the walk of RedoSpans in the row's own words. It proves no statement. -/
import Derived.Test.YteoebfiacnploaaGreatQOpen
import Derived.Test.YteoebfiacnploaaGreatQTopB
namespace Go.Proofs.YteoebfiacnploaaGreat.HRec
open Go.RowKit Go.Deep Go.Proofs.YteoebfiacnploaaGreat.Open Go.Proofs.YteoebfiacnploaaGreatW.PrintWords Go.Proofs.YteoebfiacnploaaGreatW.PrintLast
set_option linter.unusedVariables false
set_option maxRecDepth 100000 in
theorem opens_144 {H : Type} {enc : TypeId × Value → H} {W : World} : Opens enc Tryz.prog W 144 k144 (fun _ => True) :=
  opens_imp (opens_struct (ok := fun x => (Lit.int .i64 x.1).wf = true ∧ x.2.size ≤ maxLen) (fun x : S144 => (x.f0, x.f1)) (fun p => ⟨p.1, p.2⟩) (fun _ => rfl) Tryz.underlying144 (by kernel_rfl) (opensF_cons rfl rfl rfl (opens_int Tryz.underlying3) (opensF_one rfl rfl (opens_string Tryz.underlying9)))) (fun _ _ => trivial)
set_option maxRecDepth 100000 in
theorem opens_36 {H : Type} {enc : TypeId × Value → H} {W : World} : Opens enc Tryz.prog W 36 k36 (fun _ => True) :=
  opens_imp (opens_struct (ok := fun x => (Lit.int .i64 x.1).wf = true ∧ (Lit.int .i64 x.2).wf = true) (fun x : S36 => (x.f0, x.f1)) (fun p => ⟨p.1, p.2⟩) (fun _ => rfl) Tryz.underlying36 (by kernel_rfl) (opensF_cons rfl rfl rfl (opens_int Tryz.underlying3) (opensF_one rfl rfl (opens_int Tryz.underlying3)))) (fun _ _ => trivial)
set_option maxRecDepth 100000 in
theorem opens_rec {H : Type} {enc : TypeId × Value → H} {W : World} : Opens enc Tryz.prog W 32 kRec (fun _ => True) := by
  have i := @opens_int H enc Tryz.prog W 3 .i64 Tryz.underlying3
  have s := @opens_string H enc Tryz.prog W 9 Tryz.underlying9
  have a := opens_imp (ok' := fun _ => True) (opens_slice Tryz.underlying30 (by kernel_rfl) (@opens_144 H enc W)) (fun _ _ => trivial)
  have b := opens_imp (ok' := fun _ => True) (opens_slice Tryz.underlying29 (by kernel_rfl) (@opens_36 H enc W)) (fun _ _ => trivial)
  have i := opens_imp (ok' := fun _ => True) i (fun _ _ => trivial)
  have s := opens_imp (ok' := fun _ => True) s (fun _ _ => trivial)
  refine opens_imp (opens_struct (fun x : RecT => x) (fun x => x) (fun _ => rfl) Tryz.underlying32 (by kernel_rfl) (opensF_cons rfl rfl rfl i (opensF_cons rfl rfl rfl i (opensF_cons rfl rfl rfl i (opensF_cons rfl rfl rfl i (opensF_cons rfl rfl rfl i (opensF_cons rfl rfl rfl s (opensF_cons rfl rfl rfl s (opensF_cons rfl rfl rfl s (opensF_cons rfl rfl rfl i (opensF_cons rfl rfl rfl a (opensF_cons rfl rfl rfl b (opensF_cons rfl rfl rfl i (opensF_one rfl rfl i)))))))))))))) (fun _ _ => trivial)
theorem spans_walk {W : World} (A0 : Option Addr) (c0 : Nat) (l : List RecT) (hr0 : Kd.C kRec W A0 l.length l) (hc0 : l.length ≤ c0) (_ : l.length ≤ maxLen ∧ ∀ x ∈ l, True)
    (en : Int) (_ : (Lit.int .i64 en).wf = true) :
    Calls Tryz.prog 3 #[.slice A0 l.length c0, .int .i64 en] W fun x w' => x = .returned (.bool true) ∧ Below W.heap.size W w' := law_Spans A0 c0 l en W hr0
end Go.Proofs.YteoebfiacnploaaGreat.HRec
