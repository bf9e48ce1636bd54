/- Functions of this program that the evaluator is told of. It proves no statement. -/
import Derived.Test.YtddcgoopgnogeaaGreatDoorEvI
import Derived.Test.YtddcgoopgnogeaaGreatDoorProg
import Derived.KernelRfl
import Derived.Test.YtddcgoopgnogeaaGreatDoorShelf
import Derived.Shelf.Strings.Builder1
import Derived.Shelf.LaysM
set_option linter.unusedVariables false
set_option linter.unusedSimpArgs false
set_option linter.unusedSectionVars false
namespace Go.Proofs.YtddcgoopgnogeaaGreatDoor.Ev
open Go.Proofs
open Go.RowKit (Below)
set_option linter.unusedVariables false
set_option maxRecDepth 100000
noncomputable def seqL (c : Code) : Code := match c with | .seq a _ => a | c => c
noncomputable def seqR (c : Code) : Code := match c with | .seq _ b => b | c => c
noncomputable def inner (c : Code) : Code := match c with | .block _ a => a | .loop a => a | c => c
noncomputable def opsOf (c : Code) : Array Oper := match c with | .region _ ops _ => ops | _ => #[]
noncomputable def opAt (a : Array Oper) (i : Nat) : Oper := a.toList.getD i default
noncomputable def bodyOf (fn : Func) : Code := fn.body.getD .skip
noncomputable def bindO {α β : Type} (x : Option α) (f : α → Option β) : Option β := Option.rec none f x
/-! Sync. -/
noncomputable def sB : Code := bodyOf Tryz.f107
noncomputable def sR0 : Code := seqL sB
noncomputable def sA1 : Code := seqL (seqR sB)
noncomputable def sA2 : Code := seqL (seqR (seqR sB))
noncomputable def sLp : Code := seqL (seqR (seqR (seqR sB)))
noncomputable def sPost : Code := seqR (seqR (seqR (seqR sB)))
noncomputable def s7 : Array Oper := opsOf (seqL sLp)
noncomputable def sX : Code := inner (inner (seqR sLp))
noncomputable def s8 : Array Oper := opsOf (seqL sX)
noncomputable def sY : Code := inner (seqR (seqR sX))
noncomputable def s9 : Array Oper := opsOf (seqL sY)
noncomputable def s10 : Array Oper := opsOf (seqR sY)
theorem sync_body : Tryz.f107.body = some (.seq sR0 (.seq sA1 (.seq sA2 (.seq sLp sPost)))) := by kernel_rfl
theorem sync_loop_is : sLp = .seq (.region 7 s7 false) (.block 0 (.loop (.seq (.region 8 #[opAt s8 0, opAt s8 1] false) (.seq (.cond (.tmp 23) .skip (.exit 0)) (.block 1 (.seq (.region 9 s9 false) (.region 10 s10 false))))))) := by kernel_rfl
noncomputable def l7 : List Oper := s7.toList.take 4
noncomputable def l9 : List Oper := s9.toList.drop 1
noncomputable def l10 : List Oper := s10.toList.take 7
noncomputable def pu (d : Nat) (v : AV) (L : Loc) : Loc := (putC (some d)).put v L
section
variable (id off si so ls cp k : Nat) (H' : Heap) (p : AV × AV)
noncomputable def L9 : Loc := pu 6 p.2 (pu 5 p.1 (pu 26 p.2 (pu 25 p.1 (pu 24 (.tup [p.1, p.2]) (Lone id off)))))
noncomputable def L29 : Loc := pu 29 (.ptr id off) (pu 28 (.ptr id off) (pu 27 (.ptr id off) (L9 id off p)))
noncomputable def L32 : Loc := pu 32 p.2 (pu 31 p.1 (pu 30 (.sl si so ls cp) (L29 id off p)))
theorem ev9 : looksC Tryz.prog 38 H' l9 (pu 24 (.tup [p.1, p.2]) (Lone id off)) = some (L9 id off p) := by kernel_rfl
theorem ev10a : looksC Tryz.prog 38 H' l10 (L9 id off p) = bindO (bindO (H'.cell id off) fun v => some (pu 30 v (L29 id off p))) fun L => looksC Tryz.prog 38 H' (l10.drop 4) L := by kernel_rfl
theorem ev10b : looksC Tryz.prog 38 H' (l10.drop 4) (pu 30 (.sl si so ls cp) (L29 id off p)) = bindO (bindO (bindO p.1.vx fun k => (Bool.rec none (some (AV.ptr si (Nat.add so (Nat.mul k 1)))) (Nat.ble (Nat.succ k) ls) : Option AV)) fun v => some (pu 33 v (L32 id off si so ls cp p))) fun L => some L := by kernel_rfl
theorem ev33 (v : AV) : (gOf (.tmp 33)).g (pu 33 v (L32 id off si so ls cp p)) = v := by kernel_rfl
theorem ev32 (v : AV) : (gOf (.tmp 32)).g (pu 33 v (L32 id off si so ls cp p)) = p.2 := by kernel_rfl
theorem sync_body_ev (h1 : H'.cell id off = some (.sl si so ls cp)) (h2 : p.1.vx = some k) (h3 : k < ls) :
    ∃ L9 L10, looksC Tryz.prog 38 H' l9 ((putC (some 24)).put (.tup [p.1, p.2]) (Lone id off)) = some L9 ∧ looksC Tryz.prog 38 H' l10 L9 = some L10 ∧ (gOf (.tmp 33)).g L10 = .ptr si (so + k) ∧ (gOf (.tmp 32)).g L10 = p.2 := by
  refine ⟨_, pu 33 (.ptr si (Nat.add so (Nat.mul k 1))) (L32 id off si so ls cp p), ev9 id off H' p, ?_, ?_, ?_⟩
  · rw [ev10a, h1]
    show bindO (some (pu 30 (.sl si so ls cp) (L29 id off p))) (fun L => looksC Tryz.prog 38 H' (l10.drop 4) L) = _
    show looksC Tryz.prog 38 H' (l10.drop 4) (pu 30 (.sl si so ls cp) (L29 id off p)) = _
    rw [ev10b, h2]
    show bindO (bindO (Bool.rec none (some (AV.ptr si (Nat.add so (Nat.mul k 1)))) (Nat.ble (Nat.succ k) ls) : Option AV) fun v => some (pu 33 v (L32 id off si so ls cp p))) (fun L => some L) = _
    rw [show Nat.ble (Nat.succ k) ls = true from Nat.ble_eq_true_of_le h3]
    rfl
  · rw [ev33]
    show AV.ptr si (so + k * 1) = _
    rw [Nat.mul_one]
  · rw [ev32]
end
section
variable {η : Env} {base : Nat} {W w w' : World} {ρ : Ren} {H H' : Heap}
theorem sync_code_ok (hη : Leaves η) : CodeOk Tryz.prog η base W Tryz.f107.ntmps sLp fun L H => syncK Tryz.prog Tryz.f107.ntmps l7 20 L H := by
  rw [sync_loop_is]
  exact sync_code (P := Tryz.prog) (nt := 38) (it := 21) (x := 22) (c := 23) (y := 24) (tm := 188) (kt := 3) (et := 9) (oR := opAt s7 4) (oN := opAt s8 0) (oE := opAt s8 1) (oY := opAt s9 0) (oS := opAt s10 7) (l7 := l7) (l9 := l9) (l10 := l10) (ty := 9) (xa := .tmp 33) (xv := .tmp 32)
    (by decide) hη (by kernel_rfl) (by kernel_rfl) (by kernel_rfl) (by kernel_rfl) (by kernel_rfl) (by decide) (by kernel_rfl) (by kernel_rfl) (by kernel_rfl) (by kernel_rfl) (by kernel_rfl) (by kernel_rfl) (by kernel_rfl) (by kernel_rfl) (by kernel_rfl)
    (by kernel_rfl) (by kernel_rfl) (by kernel_rfl) (by kernel_rfl) (by kernel_rfl) (by kernel_rfl) (by decide) (by decide) (by decide)
    (by
      have hd : (l9 ++ l10).map (·.dst) = [some 25, some 26, some 5, some 6, some 27, some 28, some 29, some 30, some 31, some 32, some 33] := by kernel_rfl
      have hall : ∀ t, (t = 21 ∨ t = 0) → some t ∉ (l9 ++ l10).map (·.dst) := by
        rw [hd]
        rintro t (rfl | rfl) <;> decide
      intro t ht
      refine ⟨by omega, by omega, by omega, fun o ho he => hall t ht (List.mem_map.2 ⟨o, ho, he⟩)⟩) (by decide)
    (fun id off si so ls cp H' p k h1 h2 h3 => sync_body_ev id off si so ls cp k H' p h1 h2 h3)
end
end Go.Proofs.YtddcgoopgnogeaaGreatDoor.Ev
namespace Go.Proofs.YtddcgoopgnogeaaGreatDoor.Ev
open Go.Proofs
open Go.RowKit (Below)
set_option linter.unusedVariables false
set_option maxRecDepth 100000
theorem mixed : Tryz.prog.follows .mixedOrders = true := by kernel_rfl
section
variable {η : Env} {base : Nat} {W w : World} {ρ : Ren} {H H' : Heap} {cb : CB} {args : List AV} {v : AV}
/-!   gharry past.Past .Acts. -/
noncomputable def g88B : Code := bodyOf Tryz.f88
noncomputable def g88p0 : Code := seqL g88B
noncomputable def g88p1 : Code := seqL (seqR g88B)
noncomputable def g88p2 : Code := seqL (seqR (seqR g88B))
noncomputable def g88p3 : Code := seqL (seqR (seqR (seqR g88B)))
noncomputable def g88p4 : Code := seqL (seqR (seqR (seqR (seqR g88B))))
noncomputable def g88p5 : Code := (seqR (seqR (seqR (seqR (seqR g88B)))))
theorem g88_body : Tryz.f88.body = some (.seq g88p0 (.seq g88p1 (.seq g88p2 (.seq g88p3 (.seq g88p4 g88p5))))) := by kernel_rfl
noncomputable def g887 : Array Oper := opsOf (seqL g88p3)
noncomputable def g88X : Code := inner (inner (seqR g88p3))
noncomputable def g888 : Array Oper := opsOf (seqL g88X)
noncomputable def g88Y : Code := seqR (seqR g88X)
noncomputable def g88l : List Oper := g887.toList.take 4
theorem g88_loop : g88p3 = .seq (.region 4 g887 false) (.block 0 (.loop (.seq (.region 5 #[opAt g888 0, opAt g888 1] false) (.seq (.cond (.tmp 14) .skip (.exit 0)) g88Y)))) := by kernel_rfl
theorem g88_code (hη : Leaves η) : CodeOk Tryz.prog η base W Tryz.f88.ntmps g88p3 fun L H => rangeK Tryz.prog Tryz.f88.ntmps g88l 11 12 13 14 L H := by
  rw [g88_loop]
  exact range_code (P := Tryz.prog) (nt := Tryz.f88.ntmps) (it := 12) (x := 13) (c := 14) (b0 := 0) (i7 := 4) (i8 := 5) (tmap := 11) (tm := 101) (kt := 3) (et := 102) (oR := opAt g887 4) (oN := opAt g888 0) (oE := opAt g888 1) (l7 := g88l) (ops7 := g887) (body := g88Y)
    (by decide +kernel) hη (by kernel_rfl) (by kernel_rfl) (by kernel_rfl) (by kernel_rfl) (by kernel_rfl) (by decide +kernel) (by kernel_rfl) (by kernel_rfl) (by kernel_rfl) (by kernel_rfl) (by kernel_rfl) (by kernel_rfl) (by decide +kernel) (by decide +kernel)
noncomputable def g88_fn : FnC := codeFn Tryz.prog Tryz.f88 fun cb => (thenO (fun L H => (codeC Tryz.prog Tryz.f88.ntmps g88p0).run cb L H) (thenO (fun L H => (codeC Tryz.prog Tryz.f88.ntmps g88p1).run cb L H) (thenO (fun L H => (codeC Tryz.prog Tryz.f88.ntmps g88p2).run cb L H) (thenO (fun L H => rangeK Tryz.prog Tryz.f88.ntmps g88l 11 12 13 14 L H) (thenO (fun L H => (codeC Tryz.prog Tryz.f88.ntmps g88p4).run cb L H) (fun L H => (codeC Tryz.prog Tryz.f88.ntmps g88p5).run cb L H))))))
theorem func88 : Tryz.prog.funcs[88]? = some Tryz.f88 := by kernel_rfl
theorem g88_ok (hD : η.D = []) (hη : Leaves η) (hcb : CBok Tryz.prog η base W cb) (h : g88_fn.run cb args H = .some v H') (hS : Sim η base W ρ H w) (hw : ∀ x ∈ args, Wf ρ H.nx x) : Calls Tryz.prog 88 (args.map (val ρ η)).toArray w fun e w' =>
      ∃ ρ', e = .returned (val ρ' η v) ∧ Ext ρ ρ' H.nx ∧ H.nx ≤ H'.nx ∧ Sim η base W ρ' H' w' ∧ Wf ρ' H'.nx v :=
  codeFn_ok hD (by decide +kernel) hη func88 g88_body (thenO_ok (codeC_ok mixed (by decide +kernel) hη hcb _) (thenO_ok (codeC_ok mixed (by decide +kernel) hη hcb _) (thenO_ok (codeC_ok mixed (by decide +kernel) hη hcb _) (thenO_ok (g88_code hη) (thenO_ok (codeC_ok mixed (by decide +kernel) hη hcb _) (codeC_ok mixed (by decide +kernel) hη hcb _)))))) h hS hw
/-! gharry redo.sorted. -/
noncomputable def g189B : Code := bodyOf Tryz.f189
noncomputable def g189p0 : Code := seqL g189B
noncomputable def g189p1 : Code := seqL (seqR g189B)
noncomputable def g189p2 : Code := seqL (seqR (seqR g189B))
noncomputable def g189p3 : Code := seqL (seqR (seqR (seqR g189B)))
noncomputable def g189p4 : Code := seqL (seqR (seqR (seqR (seqR g189B))))
noncomputable def g189p5 : Code := (seqR (seqR (seqR (seqR (seqR g189B)))))
theorem g189_body : Tryz.f189.body = some (.seq g189p0 (.seq g189p1 (.seq g189p2 (.seq g189p3 (.seq g189p4 g189p5))))) := by kernel_rfl
noncomputable def g1897 : Array Oper := opsOf (seqL g189p2)
noncomputable def g189X : Code := inner (inner (seqR g189p2))
noncomputable def g1898 : Array Oper := opsOf (seqL g189X)
noncomputable def g189Y : Code := seqR (seqR g189X)
noncomputable def g189l : List Oper := g1897.toList.take 1
theorem g189_loop : g189p2 = .seq (.region 2 g1897 false) (.block 0 (.loop (.seq (.region 3 #[opAt g1898 0, opAt g1898 1] false) (.seq (.cond (.tmp 9) .skip (.exit 0)) g189Y)))) := by kernel_rfl
theorem g189_code (hη : Leaves η) : CodeOk Tryz.prog η base W Tryz.f189.ntmps g189p2 fun L H => rangeK Tryz.prog Tryz.f189.ntmps g189l 6 7 8 9 L H := by
  rw [g189_loop]
  exact range_code (P := Tryz.prog) (nt := Tryz.f189.ntmps) (it := 7) (x := 8) (c := 9) (b0 := 0) (i7 := 2) (i8 := 3) (tmap := 6) (tm := 103) (kt := 3) (et := 3) (oR := opAt g1897 1) (oN := opAt g1898 0) (oE := opAt g1898 1) (l7 := g189l) (ops7 := g1897) (body := g189Y)
    (by decide +kernel) hη (by kernel_rfl) (by kernel_rfl) (by kernel_rfl) (by kernel_rfl) (by kernel_rfl) (by decide +kernel) (by kernel_rfl) (by kernel_rfl) (by kernel_rfl) (by kernel_rfl) (by kernel_rfl) (by kernel_rfl) (by decide +kernel) (by decide +kernel)
noncomputable def g189_fn : FnC := codeFn Tryz.prog Tryz.f189 fun cb => (thenO (fun L H => (codeC Tryz.prog Tryz.f189.ntmps g189p0).run cb L H) (thenO (fun L H => (codeC Tryz.prog Tryz.f189.ntmps g189p1).run cb L H) (thenO (fun L H => rangeK Tryz.prog Tryz.f189.ntmps g189l 6 7 8 9 L H) (thenO (fun L H => (codeC Tryz.prog Tryz.f189.ntmps g189p3).run cb L H) (thenO (fun L H => (codeC Tryz.prog Tryz.f189.ntmps g189p4).run cb L H) (fun L H => (codeC Tryz.prog Tryz.f189.ntmps g189p5).run cb L H))))))
theorem func189 : Tryz.prog.funcs[189]? = some Tryz.f189 := by kernel_rfl
theorem g189_ok (hD : η.D = []) (hη : Leaves η) (hcb : CBok Tryz.prog η base W cb) (h : g189_fn.run cb args H = .some v H') (hS : Sim η base W ρ H w) (hw : ∀ x ∈ args, Wf ρ H.nx x) : Calls Tryz.prog 189 (args.map (val ρ η)).toArray w fun e w' =>
      ∃ ρ', e = .returned (val ρ' η v) ∧ Ext ρ ρ' H.nx ∧ H.nx ≤ H'.nx ∧ Sim η base W ρ' H' w' ∧ Wf ρ' H'.nx v :=
  codeFn_ok hD (by decide +kernel) hη func189 g189_body (thenO_ok (codeC_ok mixed (by decide +kernel) hη hcb _) (thenO_ok (codeC_ok mixed (by decide +kernel) hη hcb _) (thenO_ok (g189_code hη) (thenO_ok (codeC_ok mixed (by decide +kernel) hη hcb _) (thenO_ok (codeC_ok mixed (by decide +kernel) hη hcb _) (codeC_ok mixed (by decide +kernel) hη hcb _)))))) h hS hw
/-!   gharry disk.Disk .Waiting. -/
noncomputable def g191B : Code := bodyOf Tryz.f191
noncomputable def g191p0 : Code := seqL g191B
noncomputable def g191p1 : Code := seqL (seqR g191B)
noncomputable def g191p2 : Code := seqL (seqR (seqR g191B))
noncomputable def g191p3 : Code := seqL (seqR (seqR (seqR g191B)))
noncomputable def g191p4 : Code := seqL (seqR (seqR (seqR (seqR g191B))))
noncomputable def g191p5 : Code := seqL (seqR (seqR (seqR (seqR (seqR g191B)))))
noncomputable def g191p6 : Code := (seqR (seqR (seqR (seqR (seqR (seqR g191B))))))
theorem g191_body : Tryz.f191.body = some (.seq g191p0 (.seq g191p1 (.seq g191p2 (.seq g191p3 (.seq g191p4 (.seq g191p5 g191p6)))))) := by kernel_rfl
noncomputable def g1917 : Array Oper := opsOf (seqL g191p3)
noncomputable def g191X : Code := inner (inner (seqR g191p3))
noncomputable def g1918 : Array Oper := opsOf (seqL g191X)
noncomputable def g191Y : Code := seqR (seqR g191X)
noncomputable def g191l : List Oper := g1917.toList.take 4
theorem g191_loop : g191p3 = .seq (.region 4 g1917 false) (.block 0 (.loop (.seq (.region 5 #[opAt g1918 0, opAt g1918 1] false) (.seq (.cond (.tmp 13) .skip (.exit 0)) g191Y)))) := by kernel_rfl
theorem g191_code (hη : Leaves η) : CodeOk Tryz.prog η base W Tryz.f191.ntmps g191p3 fun L H => rangeK Tryz.prog Tryz.f191.ntmps g191l 10 11 12 13 L H := by
  rw [g191_loop]
  exact range_code (P := Tryz.prog) (nt := Tryz.f191.ntmps) (it := 11) (x := 12) (c := 13) (b0 := 0) (i7 := 4) (i8 := 5) (tmap := 10) (tm := 188) (kt := 3) (et := 9) (oR := opAt g1917 4) (oN := opAt g1918 0) (oE := opAt g1918 1) (l7 := g191l) (ops7 := g1917) (body := g191Y)
    (by decide +kernel) hη (by kernel_rfl) (by kernel_rfl) (by kernel_rfl) (by kernel_rfl) (by kernel_rfl) (by decide +kernel) (by kernel_rfl) (by kernel_rfl) (by kernel_rfl) (by kernel_rfl) (by kernel_rfl) (by kernel_rfl) (by decide +kernel) (by decide +kernel)
noncomputable def g191_fn : FnC := codeFn Tryz.prog Tryz.f191 fun cb => (thenO (fun L H => (codeC Tryz.prog Tryz.f191.ntmps g191p0).run cb L H) (thenO (fun L H => (codeC Tryz.prog Tryz.f191.ntmps g191p1).run cb L H) (thenO (fun L H => (codeC Tryz.prog Tryz.f191.ntmps g191p2).run cb L H) (thenO (fun L H => rangeK Tryz.prog Tryz.f191.ntmps g191l 10 11 12 13 L H) (thenO (fun L H => (codeC Tryz.prog Tryz.f191.ntmps g191p4).run cb L H) (thenO (fun L H => (codeC Tryz.prog Tryz.f191.ntmps g191p5).run cb L H) (fun L H => (codeC Tryz.prog Tryz.f191.ntmps g191p6).run cb L H)))))))
theorem func191 : Tryz.prog.funcs[191]? = some Tryz.f191 := by kernel_rfl
theorem g191_ok (hD : η.D = []) (hη : Leaves η) (hcb : CBok Tryz.prog η base W cb) (h : g191_fn.run cb args H = .some v H') (hS : Sim η base W ρ H w) (hw : ∀ x ∈ args, Wf ρ H.nx x) : Calls Tryz.prog 191 (args.map (val ρ η)).toArray w fun e w' =>
      ∃ ρ', e = .returned (val ρ' η v) ∧ Ext ρ ρ' H.nx ∧ H.nx ≤ H'.nx ∧ Sim η base W ρ' H' w' ∧ Wf ρ' H'.nx v :=
  codeFn_ok hD (by decide +kernel) hη func191 g191_body (thenO_ok (codeC_ok mixed (by decide +kernel) hη hcb _) (thenO_ok (codeC_ok mixed (by decide +kernel) hη hcb _) (thenO_ok (codeC_ok mixed (by decide +kernel) hη hcb _) (thenO_ok (g191_code hη) (thenO_ok (codeC_ok mixed (by decide +kernel) hη hcb _) (thenO_ok (codeC_ok mixed (by decide +kernel) hη hcb _) (codeC_ok mixed (by decide +kernel) hη hcb _))))))) h hS hw
end
end Go.Proofs.YtddcgoopgnogeaaGreatDoor.Ev
namespace Go.Proofs.YtddcgoopgnogeaaGreatDoor.Ev
open Go.Proofs
open Go.RowKit (Below)
set_option linter.unusedVariables false
set_option maxRecDepth 100000
theorem func107 : Tryz.prog.funcs[107]? = some Tryz.f107 := by kernel_rfl
def renB : Go.Shelf.Ren := ⟨fun | 240 => 314 | 276 => 355 | n => n, fun | 0 => 0 | 4 => 4 | 9 => 9 | 20 => 20 | 37 => 275 | 70 => 332 | 72 => 334 | 164 => 317 | n => n, fun | n => n⟩
theorem lays240 : Lays.n240 Tryz.prog renB := {
  mixed := by kernel_rfl
  f240 := Tryz.func314.trans (congrArg some (by kernel_rfl))
  f276 := Tryz.func355.trans (congrArg some (by kernel_rfl))
  t0 := Tryz.underlying0
  a0 := Tryz.isAgg0
  z0 := Tryz.sizeOf0
  v0 := Tryz.zeroValue0
  t4 := Tryz.underlying4
  a4 := Tryz.isAgg4
  z4 := Tryz.sizeOf4
  v4 := Tryz.zeroValue4
  t9 := Tryz.underlying9
  a9 := Tryz.isAgg9
  z9 := Tryz.sizeOf9
  v9 := Tryz.zeroValue9
  t20 := Tryz.underlying20
  a20 := Tryz.isAgg20
  z20 := Tryz.sizeOf20
  v20 := Tryz.zeroValue20
  t70 := Tryz.underlying332
  a70 := Tryz.isAgg332
  z70 := Tryz.sizeOf332
  v70 := Tryz.zeroValue332
  t72 := Tryz.underlying334
  a72 := Tryz.isAgg334
  z72 := Tryz.sizeOf334
  v72 := Tryz.zeroValue334
  t164 := Tryz.underlying317
  a164 := Tryz.isAgg317
  z164 := Tryz.sizeOf317
  v164 := Tryz.zeroValue317 }
theorem x72 : Builder.X72 Tryz.prog renB := {
  sizeBuilder := by kernel_rfl
  liesBuilder := by kernel_rfl }
theorem sortE134 (Bm o b clock : Nat) (w : World) (h1 : w.cell? ⟨Bm, o, none⟩ = some (.map (some b))) (h2 : w.heap[b]? = some (.map #[] clock)) : Calls Tryz.prog 66 #[.func (.func 134) #[] #[.pointer (some ⟨Bm, o, none⟩)]] w fun e w' => e = .returned (.slice none 0 0) ∧ Below w.heap.size w w' :=
  sortedE (ρ6 := Tryz.sorted66_ren) (ρ10 := Tryz.keys67_ren) Tryz.sorted66 { Tryz.keys67 with } Tryz.sorts66 (enters_of Tryz.func133 (by kernel_rfl) rfl) (enters_of Tryz.func134 (by kernel_rfl) rfl) Bm o b clock w h1 h2
theorem sortE234 (Bm o b clock : Nat) (w : World) (h1 : w.cell? ⟨Bm, o, none⟩ = some (.map (some b))) (h2 : w.heap[b]? = some (.map #[] clock)) : Calls Tryz.prog 66 #[.func (.func 234) #[] #[.pointer (some ⟨Bm, o, none⟩)]] w fun e w' => e = .returned (.slice none 0 0) ∧ Below w.heap.size w w' :=
  sortedE (ρ6 := Tryz.sorted66_ren) (ρ10 := Tryz.keys171_ren) Tryz.sorted66 { Tryz.keys171 with } Tryz.sorts66 (enters_of Tryz.func133 (by kernel_rfl) rfl) (enters_of Tryz.func234 (by kernel_rfl) rfl) Bm o b clock w h1 h2
noncomputable def orFn (a b : FnC) : FnC := ⟨fun cb x H => Res.rec (b.run cb x H) (fun v H' => .some v H') (a.run cb x H)⟩
theorem orFn_some {a b : FnC} {cb : CB} {x : List AV} {H H' : Heap} {v : AV} (h : (orFn a b).run cb x H = .some v H') : a.run cb x H = .some v H' ∨ b.run cb x H = .some v H' := by
  have h : (Res.rec (b.run cb x H) (fun v H' => .some v H') (a.run cb x H) : Res) = .some v H' := h
  cases ha : a.run cb x H with
  | none => rw [ha] at h; exact .inr h
  | some u H1 => rw [ha] at h; exact .inl h
/-- What is told of some functions. -/
noncomputable def sp (f : Nat) : Option FnC :=
  if f = 289 then some repFn else if f = 107 then some (syncFn Tryz.prog Tryz.f107 sR0 sA1 sA2 sPost l7 20) else if f = 314 then some (copyFn 334) else if f = 66 then some (orFn (sortedFn 134) (sortedFn 234)) else if f = 88 then some g88_fn else if f = 189 then some g189_fn else if f = 191 then some g191_fn else none
theorem sp_ok {η : Env} {base : Nat} {W : World} (hD : η.D = []) (hη : Leaves η) : SpOk Tryz.prog η base W sp := by
  intro f s hs cb hcb args H v H' h ρ w hS hw
  unfold sp at hs
  split at hs
  · rename_i hf
    subst hf
    injection hs with hs
    subst hs
    exact repFn_ok (fun s c w h1 h2 => Tryz.strings_Repeat s c w h1 h2) h hS hw
  split at hs
  · rename_i hf
    subst hf
    injection hs with hs
    subst hs
    exact syncFn_ok hD mixed (by decide +kernel) hη hcb func107 sync_body (sync_code_ok hη) h hS hw
  split at hs
  · rename_i hf
    subst hf
    injection hs with hs
    subst hs
    exact copyFn_ok (fun b w h => Any.Builder_copyCheck_used lays240 x72 b w h) (fun b w h1 h2 h3 => Any.Builder_copyCheck_fresh lays240 x72 b w h1 h2 h3) (tB := 334) h hS hw
  split at hs
  · rename_i hf
    subst hf
    injection hs with hs
    subst hs
    rcases orFn_some h with h | h
    · exact sortedFn_ok (fun Bm o b clock w h1 h2 => sortE134 Bm o b clock w h1 h2) h hS hw
    · exact sortedFn_ok (fun Bm o b clock w h1 h2 => sortE234 Bm o b clock w h1 h2) h hS hw
  split at hs
  · rename_i hf
    subst hf
    injection hs with hs
    subst hs
    exact g88_ok hD hη hcb h hS hw
  split at hs
  · rename_i hf
    subst hf
    injection hs with hs
    subst hs
    exact g189_ok hD hη hcb h hS hw
  split at hs
  · rename_i hf
    subst hf
    injection hs with hs
    subst hs
    exact g191_ok hD hη hcb h hS hw
  cases hs
noncomputable def isTrue (r : Res) : Bool := Res.rec false (fun v _ => Option.rec false (fun b => b) v.vb) r
end Go.Proofs.YtddcgoopgnogeaaGreatDoor.Ev
