/- Functions of this program that the evaluator is told of. It proves no statement. -/
import Derived.Test.YtomicolllbhdaaaGreatEvF
import Derived.Test.YtomicolllbhdaaaGreatProg
import Derived.KernelRfl
import Derived.Test.YtomicolllbhdaaaGreatShelf
set_option linter.unusedVariables false
set_option linter.unusedSimpArgs false
set_option linter.unusedSectionVars false
namespace Go.Proofs.YtomicolllbhdaaaGreat.Ev
open Go.Proofs
open Go.RowKit (Below)
set_option linter.unusedVariables false
set_option maxRecDepth 100000
noncomputable def seqL (c : Code) : Code := match c with | .seq a _ => a | c => c
noncomputable def seqR (c : Code) : Code := match c with | .seq _ b => b | c => c
noncomputable def inner (c : Code) : Code := match c with | .block _ a => a | .loop a => a | c => c
noncomputable def opsOf (c : Code) : Array Oper := match c with | .region _ ops _ => ops | _ => #[]
noncomputable def opAt (a : Array Oper) (i : Nat) : Oper := a.toList.getD i default
noncomputable def bodyOf (fn : Func) : Code := fn.body.getD .skip
noncomputable def bindO {α β : Type} (x : Option α) (f : α → Option β) : Option β := Option.rec none f x
/-! Sync. -/
noncomputable def sB : Code := bodyOf Tryz.f56
noncomputable def sR0 : Code := seqL sB
noncomputable def sA1 : Code := seqL (seqR sB)
noncomputable def sA2 : Code := seqL (seqR (seqR sB))
noncomputable def sLp : Code := seqL (seqR (seqR (seqR sB)))
noncomputable def sPost : Code := seqR (seqR (seqR (seqR sB)))
noncomputable def s7 : Array Oper := opsOf (seqL sLp)
noncomputable def sX : Code := inner (inner (seqR sLp))
noncomputable def s8 : Array Oper := opsOf (seqL sX)
noncomputable def sY : Code := inner (seqR (seqR sX))
noncomputable def s9 : Array Oper := opsOf (seqL sY)
noncomputable def s10 : Array Oper := opsOf (seqR sY)
theorem sync_body : Tryz.f56.body = some (.seq sR0 (.seq sA1 (.seq sA2 (.seq sLp sPost)))) := by kernel_rfl
theorem sync_loop_is : sLp = .seq (.region 7 s7 false) (.block 0 (.loop (.seq (.region 8 #[opAt s8 0, opAt s8 1] false) (.seq (.cond (.tmp 23) .skip (.exit 0)) (.block 1 (.seq (.region 9 s9 false) (.region 10 s10 false))))))) := by kernel_rfl
noncomputable def l7 : List Oper := s7.toList.take 4
noncomputable def l9 : List Oper := s9.toList.drop 1
noncomputable def l10 : List Oper := s10.toList.take 7
noncomputable def pu (d : Nat) (v : AV) (L : Loc) : Loc := (putC (some d)).put v L
section
variable (id off si so ls cp k : Nat) (H' : Heap) (p : AV × AV)
noncomputable def L9 : Loc := pu 6 p.2 (pu 5 p.1 (pu 26 p.2 (pu 25 p.1 (pu 24 (.tup [p.1, p.2]) (Lone id off)))))
noncomputable def L29 : Loc := pu 29 (.ptr id off) (pu 28 (.ptr id off) (pu 27 (.ptr id off) (L9 id off p)))
noncomputable def L32 : Loc := pu 32 p.2 (pu 31 p.1 (pu 30 (.sl si so ls cp) (L29 id off p)))
theorem ev9 : looksC Tryz.prog 38 H' l9 (pu 24 (.tup [p.1, p.2]) (Lone id off)) = some (L9 id off p) := by kernel_rfl
theorem ev10a : looksC Tryz.prog 38 H' l10 (L9 id off p) = bindO (bindO (H'.cell id off) fun v => some (pu 30 v (L29 id off p))) fun L => looksC Tryz.prog 38 H' (l10.drop 4) L := by kernel_rfl
theorem ev10b : looksC Tryz.prog 38 H' (l10.drop 4) (pu 30 (.sl si so ls cp) (L29 id off p)) = bindO (bindO (bindO p.1.vx fun k => (Bool.rec none (some (AV.ptr si (Nat.add so (Nat.mul k 1)))) (Nat.ble (Nat.succ k) ls) : Option AV)) fun v => some (pu 33 v (L32 id off si so ls cp p))) fun L => some L := by kernel_rfl
theorem ev33 (v : AV) : (gOf (.tmp 33)).g (pu 33 v (L32 id off si so ls cp p)) = v := by kernel_rfl
theorem ev32 (v : AV) : (gOf (.tmp 32)).g (pu 33 v (L32 id off si so ls cp p)) = p.2 := by kernel_rfl
theorem sync_body_ev (h1 : H'.cell id off = some (.sl si so ls cp)) (h2 : p.1.vx = some k) (h3 : k < ls) :
    ∃ L9 L10, looksC Tryz.prog 38 H' l9 ((putC (some 24)).put (.tup [p.1, p.2]) (Lone id off)) = some L9 ∧ looksC Tryz.prog 38 H' l10 L9 = some L10 ∧ (gOf (.tmp 33)).g L10 = .ptr si (so + k) ∧ (gOf (.tmp 32)).g L10 = p.2 := by
  refine ⟨_, pu 33 (.ptr si (Nat.add so (Nat.mul k 1))) (L32 id off si so ls cp p), ev9 id off H' p, ?_, ?_, ?_⟩
  · rw [ev10a, h1]
    show bindO (some (pu 30 (.sl si so ls cp) (L29 id off p))) (fun L => looksC Tryz.prog 38 H' (l10.drop 4) L) = _
    show looksC Tryz.prog 38 H' (l10.drop 4) (pu 30 (.sl si so ls cp) (L29 id off p)) = _
    rw [ev10b, h2]
    show bindO (bindO (Bool.rec none (some (AV.ptr si (Nat.add so (Nat.mul k 1)))) (Nat.ble (Nat.succ k) ls) : Option AV) fun v => some (pu 33 v (L32 id off si so ls cp p))) (fun L => some L) = _
    rw [show Nat.ble (Nat.succ k) ls = true from Nat.ble_eq_true_of_le h3]
    rfl
  · rw [ev33]
    show AV.ptr si (so + k * 1) = _
    rw [Nat.mul_one]
  · rw [ev32]
end
section
variable {η : Nat → Value} {base : Nat} {W w w' : World} {ρ : Ren} {H H' : Heap}
theorem sync_code_ok (hη : Leaves η) : CodeOk Tryz.prog η base W Tryz.f56.ntmps sLp fun L H => syncK Tryz.prog Tryz.f56.ntmps l7 20 L H := by
  rw [sync_loop_is]
  exact sync_code (P := Tryz.prog) (nt := 38) (it := 21) (x := 22) (c := 23) (y := 24) (tm := 167) (kt := 3) (et := 9) (oR := opAt s7 4) (oN := opAt s8 0) (oE := opAt s8 1) (oY := opAt s9 0) (oS := opAt s10 7) (l7 := l7) (l9 := l9) (l10 := l10) (ty := 9) (xa := .tmp 33) (xv := .tmp 32)
    (by decide) hη (by kernel_rfl) (by kernel_rfl) (by kernel_rfl) (by kernel_rfl) (by kernel_rfl) (by decide) (by kernel_rfl) (by kernel_rfl) (by kernel_rfl) (by kernel_rfl) (by kernel_rfl) (by kernel_rfl) (by kernel_rfl) (by kernel_rfl) (by kernel_rfl)
    (by kernel_rfl) (by kernel_rfl) (by kernel_rfl) (by kernel_rfl) (by kernel_rfl) (by kernel_rfl) (by decide) (by decide) (by decide)
    (by
      have hd : (l9 ++ l10).map (·.dst) = [some 25, some 26, some 5, some 6, some 27, some 28, some 29, some 30, some 31, some 32, some 33] := by kernel_rfl
      have hall : ∀ t, (t = 21 ∨ t = 0) → some t ∉ (l9 ++ l10).map (·.dst) := by
        rw [hd]
        rintro t (rfl | rfl) <;> decide
      intro t ht
      refine ⟨by omega, by omega, by omega, fun o ho he => hall t ht (List.mem_map.2 ⟨o, ho, he⟩)⟩) (by decide)
    (fun id off si so ls cp H' p k h1 h2 h3 => sync_body_ev id off si so ls cp k H' p h1 h2 h3)
end
end Go.Proofs.YtomicolllbhdaaaGreat.Ev
namespace Go.Proofs.YtomicolllbhdaaaGreat.Ev
open Go.Proofs
open Go.RowKit (Below)
set_option linter.unusedVariables false
set_option maxRecDepth 100000
/-- What is told of two functions. -/
noncomputable def sp (f : Nat) : Option FnC :=
  if f = 205 then some repFn else if f = 56 then some (syncFn Tryz.prog Tryz.f56 sR0 sA1 sA2 sPost l7 20) else none
theorem mixed : Tryz.prog.follows .mixedOrders = true := by kernel_rfl
theorem func56 : Tryz.prog.funcs[56]? = some Tryz.f56 := by kernel_rfl
theorem sp_ok {η : Nat → Value} {base : Nat} {W : World} (hη : Leaves η) : SpOk Tryz.prog η base W sp := by
  intro f s hs cb hcb args H v H' h ρ w hS hw
  unfold sp at hs
  split at hs
  · rename_i hf
    subst hf
    injection hs with hs
    subst hs
    exact repFn_ok (fun s c w h1 h2 => Tryz.strings_Repeat s c w h1 h2) h hS hw
  · split at hs
    · rename_i hf
      subst hf
      injection hs with hs
      subst hs
      exact syncFn_ok mixed (by decide) hη hcb func56 sync_body (sync_code_ok hη) h hS hw
    · cases hs
noncomputable def isTrue (r : Res) : Bool := Res.rec false (fun v _ => Option.rec false (fun b => b) v.vb) r
end Go.Proofs.YtomicolllbhdaaaGreat.Ev
