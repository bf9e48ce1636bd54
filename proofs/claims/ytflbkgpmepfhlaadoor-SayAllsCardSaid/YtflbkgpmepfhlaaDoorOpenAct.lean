/- Steps, and rows of steps, that come in: read as plain Lean values. It proves no statement. -/
import Derived.Test.YtflbkgpmepfhlaaDoorOpen
import Derived.Test.YtflbkgpmepfhlaaDoorFtypes
import Derived.Test.YtflbkgpmepfhlaaDoorRows
namespace Go.Proofs.YtflbkgpmepfhlaaDoor.Open
open Go.RowKit Go.Deep Go.WideShapes Go.Proofs.YtflbkgpmepfhlaaDoorW.PrintWords Go.Proofs.YtflbkgpmepfhlaaDoorW.PrintLast Go.Proofs.YtflbkgpmepfhlaaDoor.HSay
set_option linter.unusedVariables false
variable {H : Type} {enc : TypeId × Value → H} {W : World}
def okA (x : S32) : Prop := (0 ≤ x.f4 ∧ x.f4 < 18446744073709551616) ∧ x.f5.size ≤ maxLen ∧ x.f6.size ≤ maxLen
theorem u64_wf {n : Int} (h : (Lit.int .u64 n).wf = true) : 0 ≤ n ∧ n < 18446744073709551616 := by
  unfold Lit.wf at h
  simp only [Bool.and_eq_true, decide_eq_true_eq] at h
  have e1 : IntKind.u64.min = 0 := by decide
  have e2 : IntKind.u64.max = 18446744073709551615 := by decide
  rw [e1, e2] at h
  omega
theorem opens_act : Opens enc Tryd.prog W 32 k32 okA :=
  opens_imp (opens_struct (ok := fun x => (Lit.int .i64 x.1).wf = true ∧ (Lit.int .i64 x.2.1).wf = true ∧ (Lit.int .i64 x.2.2.1).wf = true ∧ (Lit.int .i64 x.2.2.2.1).wf = true ∧ (Lit.int .u64 x.2.2.2.2.1).wf = true ∧ x.2.2.2.2.2.1.size ≤ maxLen ∧ x.2.2.2.2.2.2.1.size ≤ maxLen ∧ True)
    (fun x : S32 => (x.f0, x.f1, x.f2, x.f3, x.f4, x.f5, x.f6, x.f7)) (fun p => ⟨p.1, p.2.1, p.2.2.1, p.2.2.2.1, p.2.2.2.2.1, p.2.2.2.2.2.1, p.2.2.2.2.2.2.1, p.2.2.2.2.2.2.2⟩) (fun _ => rfl) Tryd.underlying32 (by kernel_rfl)
    (opensF_cons rfl rfl rfl (opens_int Tryd.underlying3) (opensF_cons rfl rfl rfl (opens_int Tryd.underlying3) (opensF_cons rfl rfl rfl (opens_int Tryd.underlying3) (opensF_cons rfl rfl rfl (opens_int Tryd.underlying3)
      (opensF_cons rfl rfl rfl (opens_int Tryd.underlying30) (opensF_cons rfl rfl rfl (opens_string Tryd.underlying9) (opensF_cons rfl rfl rfl (opens_string Tryd.underlying9) (opensF_one rfl rfl (opens_bool Tryd.underlying4)))))))))) (fun x h => ⟨u64_wf h.2.2.2.2.1, h.2.2.2.2.2.1, h.2.2.2.2.2.2.1⟩)
theorem open_act {base : Nat} {v : Value} {d : DataW H} {ps : List MemPlace} (hv : Value.okWide Tryd.prog W .any base 32 v) (h : DataW.Trod enc Tryd.prog W 0 (fun _ => true) true 32 v d ps) :
    ∃ a : S32, v = .agg #[.int .i64 a.f0, .int .i64 a.f1, .int .i64 a.f2, .int .i64 a.f3, .int .u64 a.f4, .string a.f5, .string a.f6, .bool a.f7] ∧ okA a := by
  obtain ⟨cs, rfl, _⟩ := okWide_struct Tryd.underlying32 hv
  obtain ⟨a, hk, hok⟩ := opens_at opens_act h
  refine ⟨a, ?_, hok⟩
  have := k32_open hk
  congr 1
  exact Array.toList_inj.1 this
end Go.Proofs.YtflbkgpmepfhlaaDoor.Open
