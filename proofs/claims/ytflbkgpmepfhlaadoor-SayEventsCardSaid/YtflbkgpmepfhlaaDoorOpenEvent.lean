/- Events, and rows of steps, that come in: read as plain Lean values. It proves no statement. -/
import Derived.Test.YtflbkgpmepfhlaaDoorOpenAct
namespace Go.Proofs.YtflbkgpmepfhlaaDoor.Open
open Go.RowKit Go.Deep Go.WideShapes Go.Proofs.YtflbkgpmepfhlaaDoorW.PrintWords Go.Proofs.YtflbkgpmepfhlaaDoorW.PrintLast Go.Proofs.YtflbkgpmepfhlaaDoor.HSay
set_option linter.unusedVariables false
variable {H : Type} {enc : TypeId × Value → H} {W : World}
theorem opens_cell : Opens enc Tryd.prog W 52 k52 (fun _ => True) :=
  opens_imp (opens_struct (ok := fun x => x.1.size ≤ maxLen ∧ x.2.size ≤ maxLen) (fun x : S52 => (x.f0, x.f1)) (fun p => ⟨p.1, p.2⟩) (fun _ => rfl) Tryd.underlying52 (by kernel_rfl)
    (opensF_cons rfl rfl rfl (opens_string Tryd.underlying9) (opensF_one rfl rfl (opens_string Tryd.underlying9)))) (fun _ _ => trivial)
abbrev Ints5 := Int × Int × Int × Int × Int
/-- All of an event but its cells. -/
abbrev EvT := Int × Int × Int × Int × ByteArray × ByteArray × Bool × Bool × Int × Bool × Int × List S52 × Ints5
def kEv : Kd EvT := Kd.pair (Kd.int .i64) (Kd.pair (Kd.int .i64) (Kd.pair (Kd.int .i64) (Kd.pair (Kd.int .i64) (Kd.pair Kd.string (Kd.pair Kd.string (Kd.pair Kd.bool (Kd.pair Kd.bool (Kd.pair (Kd.int .i64) (Kd.pair Kd.bool (Kd.pair (Kd.int .i64) (Kd.pair (Kd.slice 52 k52) (Kd.pair (Kd.int .i64) (Kd.pair (Kd.int .i64) (Kd.pair (Kd.int .i64) (Kd.pair (Kd.int .i64) (Kd.int .i64))))))))))))))))
theorem opens_event : Opens enc Tryd.prog W 50 (Kd.iso kEv (id : EvT → EvT)) (fun _ => True) :=
  opens_imp (opens_struct (id : EvT → EvT) id (fun _ => rfl) Tryd.underlying50 (by kernel_rfl)
    (opensF_cons rfl rfl rfl (opens_int Tryd.underlying3) (opensF_cons rfl rfl rfl (opens_int Tryd.underlying3) (opensF_cons rfl rfl rfl (opens_int Tryd.underlying3) (opensF_cons rfl rfl rfl (opens_int Tryd.underlying3)
      (opensF_cons rfl rfl rfl (opens_string Tryd.underlying9) (opensF_cons rfl rfl rfl (opens_string Tryd.underlying9) (opensF_cons rfl rfl rfl (opens_bool Tryd.underlying4) (opensF_cons rfl rfl rfl (opens_bool Tryd.underlying4)
        (opensF_cons rfl rfl rfl (opens_int Tryd.underlying23) (opensF_cons rfl rfl rfl (opens_bool Tryd.underlying4) (opensF_cons rfl rfl rfl (opens_int Tryd.underlying3)
          (opensF_cons rfl rfl rfl (opens_slice Tryd.underlying48 (by kernel_rfl) opens_cell)
            (opensF_cons rfl rfl rfl (opens_int Tryd.underlying3) (opensF_cons rfl rfl rfl (opens_int Tryd.underlying3) (opensF_cons rfl rfl rfl (opens_int Tryd.underlying3) (opensF_cons rfl rfl rfl (opens_int Tryd.underlying3) (opensF_one rfl rfl (opens_int Tryd.underlying3))))))))))))))))))) (fun _ _ => trivial)
theorem open_event {base : Nat} {v : Value} {d : DataW H} {ps : List MemPlace} (hv : Value.okWide Tryd.prog W .any base 50 v) (h : DataW.Trod enc Tryd.prog W 0 (fun _ => true) true 50 v d ps) :
    ∃ (a b c e : Int) (f g : ByteArray) (m n : Bool) (o : Int) (p : Bool) (q : Int) (A : Option Addr) (k : Nat) (l : List S52) (x1 x2 x3 x4 x5 : Int),
      v = .agg #[.int .i64 a, .int .i64 b, .int .i64 c, .int .i64 e, .string f, .string g, .bool m, .bool n, .int .i64 o, .bool p, .int .i64 q, .slice A l.length k, .int .i64 x1, .int .i64 x2, .int .i64 x3, .int .i64 x4, .int .i64 x5] ∧
      l.length ≤ k ∧ Kd.C k52 W A l.length l := by
  obtain ⟨cs, rfl, _⟩ := okWide_struct Tryd.underlying50 hv
  obtain ⟨⟨a, b, c, e, f, g, m, n, o, p, q, l, x1, x2, x3, x4, x5⟩, hk, hok⟩ := opens_at opens_event h
  obtain ⟨c0, r0, e0, rfl, c1, r1, rfl, rfl, c2, r2, rfl, rfl, c3, r3, rfl, rfl, c4, r4, rfl, rfl, c5, r5, rfl, rfl, c6, r6, rfl, rfl, c7, r7, rfl, rfl, c8, r8, rfl, rfl, c9, r9, rfl, rfl, c10, r10, rfl, rfl, c11, r11, rfl, ⟨A, k, rfl, hl, hC⟩, c12, r12, rfl, rfl, c13, r13, rfl, rfl, c14, r14, rfl, rfl, c15, r15, rfl, rfl, hr⟩ := hk
  obtain rfl : r15 = [.int .i64 x5] := hr
  refine ⟨a, b, c, e, f, g, m, n, o, p, q, A, k, l, x1, x2, x3, x4, x5, ?_, hl, hC⟩
  congr 1
  exact Array.toList_inj.1 e0
/-- A row of steps. -/
theorem open_acts {base : Nat} {v : Value} {d : DataW H} {ps : List MemPlace} (hv : Value.okWide Tryd.prog W .any base 38 v) (h : DataW.Trod enc Tryd.prog W 0 (fun _ => true) true 38 v d ps) :
    ∃ (A : Option Addr) (c : Nat) (l : List S32), v = .slice A l.length c ∧ l.length ≤ c ∧ Kd.C k32 W A l.length l ∧ ∀ x ∈ l, okA x := by
  obtain ⟨a, n, k, rfl⟩ := okWide_slice Tryd.underlying38 hv
  obtain ⟨l, hk, hok⟩ := opens_at (opens_slice Tryd.underlying38 (by kernel_rfl) opens_act) h
  obtain ⟨A, c, he, hl, hC⟩ := hk
  exact ⟨A, c, l, by simpa [Value.cells] using he, hl, hC, hok.2⟩
end Go.Proofs.YtflbkgpmepfhlaaDoor.Open
