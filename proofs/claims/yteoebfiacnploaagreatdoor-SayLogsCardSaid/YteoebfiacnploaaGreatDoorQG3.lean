/- Texts of this proof, put together: HookRe, HookRt. They prove no statement. -/
import Derived.Test.YteoebfiacnploaaGreatDoorQFpackReaderText
import Derived.Test.YteoebfiacnploaaGreatDoorQHookRb
import Derived.BigRegion
namespace Go.Proofs.YteoebfiacnploaaGreatDoor.HRec
open Go.RowKit Go.Proofs.YteoebfiacnploaaGreatDoorW.PrintWords Go.Proofs.YteoebfiacnploaaGreatDoorW.PrintLast Go.Proofs.YteoebfiacnploaaGreatDoorW.PrintMore
set_option linter.unusedVariables false
set_option linter.unusedSimpArgs false
/-- A record at block h. -/
def IsRec (W : World) (h : Nat) (x0 x1 x2 x3 x4 : Int) (k o n : ByteArray) (x8 : Int) (vI vT : Value) (x11 x12 : Int) : Prop :=
  W.heap[h]? = some (.cells #[.int .i64 x0, .int .i64 x1, .int .i64 x2, .int .i64 x3, .int .i64 x4, .string k, .string o, .string n, .int .i64 x8, vI, vT, .int .i64 x11, .int .i64 x12] 33 (0, 0))
section
variable {W W1 : World} {g h : Nat} {x0 x1 x2 x3 x4 : Int} {k o n : ByteArray} {x8 : Int} {vI vT : Value} {x11 x12 : Int}
theorem IsRec.keep (hr : IsRec W h x0 x1 x2 x3 x4 k o n x8 vI vT x11 x12) (hk : KeepBut W W1 g none) (hne : h ≠ g) : IsRec W1 h x0 x1 x2 x3 x4 k o n x8 vI vT x11 x12 := (hk.2 h (blk_lt hr) hne (by simp)).trans hr
theorem IsRec.below (hr : IsRec W h x0 x1 x2 x3 x4 k o n x8 vI vT x11 x12) (hb : Below W.heap.size W W1) : IsRec W1 h x0 x1 x2 x3 x4 k o n x8 vI vT x11 x12 := blk_below hr hb
theorem IsRec.set_1 (hr : IsRec W h x0 x1 x2 x3 x4 k o n x8 vI vT x11 x12) (y : Int) : IsRec (W.setCell ⟨h, 1, none⟩ (.int .i64 y)) h x0 y x2 x3 x4 k o n x8 vI vT x11 x12 := by unfold IsRec; simpa using blk_set hr 1 (.int .i64 y)
theorem IsRec.set_2 (hr : IsRec W h x0 x1 x2 x3 x4 k o n x8 vI vT x11 x12) (y : Int) : IsRec (W.setCell ⟨h, 2, none⟩ (.int .i64 y)) h x0 x1 y x3 x4 k o n x8 vI vT x11 x12 := by unfold IsRec; simpa using blk_set hr 2 (.int .i64 y)
theorem IsRec.set_3 (hr : IsRec W h x0 x1 x2 x3 x4 k o n x8 vI vT x11 x12) (y : Int) : IsRec (W.setCell ⟨h, 3, none⟩ (.int .i64 y)) h x0 x1 x2 y x4 k o n x8 vI vT x11 x12 := by unfold IsRec; simpa using blk_set hr 3 (.int .i64 y)
theorem IsRec.set_4 (hr : IsRec W h x0 x1 x2 x3 x4 k o n x8 vI vT x11 x12) (y : Int) : IsRec (W.setCell ⟨h, 4, none⟩ (.int .i64 y)) h x0 x1 x2 x3 y k o n x8 vI vT x11 x12 := by unfold IsRec; simpa using blk_set hr 4 (.int .i64 y)
theorem IsRec.set_5 (hr : IsRec W h x0 x1 x2 x3 x4 k o n x8 vI vT x11 x12) (y : ByteArray) : IsRec (W.setCell ⟨h, 5, none⟩ (.string y)) h x0 x1 x2 x3 x4 y o n x8 vI vT x11 x12 := by unfold IsRec; simpa using blk_set hr 5 (.string y)
theorem IsRec.set_6 (hr : IsRec W h x0 x1 x2 x3 x4 k o n x8 vI vT x11 x12) (y : ByteArray) : IsRec (W.setCell ⟨h, 6, none⟩ (.string y)) h x0 x1 x2 x3 x4 k y n x8 vI vT x11 x12 := by unfold IsRec; simpa using blk_set hr 6 (.string y)
theorem IsRec.set_7 (hr : IsRec W h x0 x1 x2 x3 x4 k o n x8 vI vT x11 x12) (y : ByteArray) : IsRec (W.setCell ⟨h, 7, none⟩ (.string y)) h x0 x1 x2 x3 x4 k o y x8 vI vT x11 x12 := by unfold IsRec; simpa using blk_set hr 7 (.string y)
theorem IsRec.set_8 (hr : IsRec W h x0 x1 x2 x3 x4 k o n x8 vI vT x11 x12) (y : Int) : IsRec (W.setCell ⟨h, 8, none⟩ (.int .i64 y)) h x0 x1 x2 x3 x4 k o n y vI vT x11 x12 := by unfold IsRec; simpa using blk_set hr 8 (.int .i64 y)
theorem IsRec.set_9 (hr : IsRec W h x0 x1 x2 x3 x4 k o n x8 vI vT x11 x12) (y : Value) : IsRec (W.setCell ⟨h, 9, none⟩ y) h x0 x1 x2 x3 x4 k o n x8 y vT x11 x12 := by unfold IsRec; simpa using blk_set hr 9 y
theorem IsRec.set_10 (hr : IsRec W h x0 x1 x2 x3 x4 k o n x8 vI vT x11 x12) (y : Value) : IsRec (W.setCell ⟨h, 10, none⟩ y) h x0 x1 x2 x3 x4 k o n x8 vI y x11 x12 := by unfold IsRec; simpa using blk_set hr 10 y
theorem IsRec.set_11 (hr : IsRec W h x0 x1 x2 x3 x4 k o n x8 vI vT x11 x12) (y : Int) : IsRec (W.setCell ⟨h, 11, none⟩ (.int .i64 y)) h x0 x1 x2 x3 x4 k o n x8 vI vT y x12 := by unfold IsRec; simpa using blk_set hr 11 (.int .i64 y)
theorem IsRec.set_12 (hr : IsRec W h x0 x1 x2 x3 x4 k o n x8 vI vT x11 x12) (y : Int) : IsRec (W.setCell ⟨h, 12, none⟩ (.int .i64 y)) h x0 x1 x2 x3 x4 k o n x8 vI vT x11 y := by unfold IsRec; simpa using blk_set hr 12 (.int .i64 y)
theorem IsRec.cell_3 (hr : IsRec W h x0 x1 x2 x3 x4 k o n x8 vI vT x11 x12) : W.cell? ⟨h, 3, none⟩ = some (.int .i64 x3) := (blk_cell hr 3).trans rfl
theorem IsRec.cell_5 (hr : IsRec W h x0 x1 x2 x3 x4 k o n x8 vI vT x11 x12) : W.cell? ⟨h, 5, none⟩ = some (.string k) := (blk_cell hr 5).trans rfl
theorem IsRec.cell_6 (hr : IsRec W h x0 x1 x2 x3 x4 k o n x8 vI vT x11 x12) : W.cell? ⟨h, 6, none⟩ = some (.string o) := (blk_cell hr 6).trans rfl
theorem IsRec.cell_7 (hr : IsRec W h x0 x1 x2 x3 x4 k o n x8 vI vT x11 x12) : W.cell? ⟨h, 7, none⟩ = some (.string n) := (blk_cell hr 7).trans rfl
theorem IsRec.free (hr : IsRec W h x0 x1 x2 x3 x4 k o n x8 vI vT x11 x12) (i : Nat) : W.frozen? ⟨h, i, none⟩ = false := blk_frozen hr i
end
theorem IsRec.frees {W : World} {h : Nat} {x0 x1 x2 x3 x4 : Int} {k o n : ByteArray} {x8 : Int} {vI vT : Value} {x11 x12 : Int} (hr : IsRec W h x0 x1 x2 x3 x4 k o n x8 vI vT x11 x12) : W.frozen? ⟨h, 0, none⟩ = false ∧ W.frozen? ⟨h, 1, none⟩ = false ∧ W.frozen? ⟨h, 2, none⟩ = false ∧ W.frozen? ⟨h, 3, none⟩ = false ∧ W.frozen? ⟨h, 4, none⟩ = false ∧ W.frozen? ⟨h, 5, none⟩ = false ∧ W.frozen? ⟨h, 6, none⟩ = false ∧ W.frozen? ⟨h, 7, none⟩ = false ∧ W.frozen? ⟨h, 8, none⟩ = false ∧ W.frozen? ⟨h, 9, none⟩ = false ∧ W.frozen? ⟨h, 10, none⟩ = false ∧ W.frozen? ⟨h, 11, none⟩ = false ∧ W.frozen? ⟨h, 12, none⟩ = false := ⟨IsRec.free hr 0, IsRec.free hr 1, IsRec.free hr 2, IsRec.free hr 3, IsRec.free hr 4, IsRec.free hr 5, IsRec.free hr 6, IsRec.free hr 7, IsRec.free hr 8, IsRec.free hr 9, IsRec.free hr 10, IsRec.free hr 11, IsRec.free hr 12⟩
section
variable {W W1 : World} {g h : Nat} {x0 x1 x2 x3 x4 : Int} {k o n : ByteArray} {x8 : Int} {vI vT : Value} {x11 x12 : Int}
theorem IsRec.all13 (hr : IsRec W h x0 x1 x2 x3 x4 k o n x8 vI vT x11 x12) : W.cell? ⟨h, 0, none⟩ = some (.int .i64 x0) ∧ W.cell? ⟨h, 1, none⟩ = some (.int .i64 x1) ∧ W.cell? ⟨h, 2, none⟩ = some (.int .i64 x2) ∧ W.cell? ⟨h, 3, none⟩ = some (.int .i64 x3) ∧ W.cell? ⟨h, 4, none⟩ = some (.int .i64 x4) ∧ W.cell? ⟨h, 5, none⟩ = some (.string k) ∧ W.cell? ⟨h, 6, none⟩ = some (.string o) ∧ W.cell? ⟨h, 7, none⟩ = some (.string n) ∧ W.cell? ⟨h, 8, none⟩ = some (.int .i64 x8) ∧ W.cell? ⟨h, 9, none⟩ = some (vI) ∧ W.cell? ⟨h, 10, none⟩ = some (vT) ∧ W.cell? ⟨h, 11, none⟩ = some (.int .i64 x11) ∧ W.cell? ⟨h, 12, none⟩ = some (.int .i64 x12) ∧ W.frozen? ⟨h, 0, none⟩ = false ∧ W.frozen? ⟨h, 1, none⟩ = false ∧ W.frozen? ⟨h, 2, none⟩ = false ∧ W.frozen? ⟨h, 3, none⟩ = false ∧ W.frozen? ⟨h, 4, none⟩ = false ∧ W.frozen? ⟨h, 5, none⟩ = false ∧ W.frozen? ⟨h, 6, none⟩ = false ∧ W.frozen? ⟨h, 7, none⟩ = false ∧ W.frozen? ⟨h, 8, none⟩ = false ∧ W.frozen? ⟨h, 9, none⟩ = false ∧ W.frozen? ⟨h, 10, none⟩ = false ∧ W.frozen? ⟨h, 11, none⟩ = false ∧ W.frozen? ⟨h, 12, none⟩ = false :=
  ⟨(blk_cell hr 0).trans rfl, (blk_cell hr 1).trans rfl, (blk_cell hr 2).trans rfl, (blk_cell hr 3).trans rfl, (blk_cell hr 4).trans rfl, (blk_cell hr 5).trans rfl, (blk_cell hr 6).trans rfl, (blk_cell hr 7).trans rfl, (blk_cell hr 8).trans rfl, (blk_cell hr 9).trans rfl, (blk_cell hr 10).trans rfl, (blk_cell hr 11).trans rfl, (blk_cell hr 12).trans rfl, blk_frozen hr 0, blk_frozen hr 1, blk_frozen hr 2, blk_frozen hr 3, blk_frozen hr 4, blk_frozen hr 5, blk_frozen hr 6, blk_frozen hr 7, blk_frozen hr 8, blk_frozen hr 9, blk_frozen hr 10, blk_frozen hr 11, blk_frozen hr 12⟩
theorem IsRec.sets13 (hr : IsRec W h x0 x1 x2 x3 x4 k o n x8 vI vT x11 x12) (y0 y1 y2 y3 y4 : Int) (y5 y6 y7 : ByteArray) (y8 : Int) (y9 y10 : Value) (y11 y12 : Int) : IsRec (((((((((((((W.setCell ⟨h, 0, none⟩ (.int .i64 y0)).setCell ⟨h, 1, none⟩ (.int .i64 y1)).setCell ⟨h, 2, none⟩ (.int .i64 y2)).setCell ⟨h, 3, none⟩ (.int .i64 y3)).setCell ⟨h, 4, none⟩ (.int .i64 y4)).setCell ⟨h, 5, none⟩ (.string y5)).setCell ⟨h, 6, none⟩ (.string y6)).setCell ⟨h, 7, none⟩ (.string y7)).setCell ⟨h, 8, none⟩ (.int .i64 y8)).setCell ⟨h, 9, none⟩ (y9)).setCell ⟨h, 10, none⟩ (y10)).setCell ⟨h, 11, none⟩ (.int .i64 y11)).setCell ⟨h, 12, none⟩ (.int .i64 y12)) h y0 y1 y2 y3 y4 y5 y6 y7 y8 y9 y10 y11 y12 := by
  have h0 : IsRec (W.setCell ⟨h, 0, none⟩ (.int .i64 y0)) h y0 x1 x2 x3 x4 k o n x8 vI vT x11 x12 := by unfold IsRec; simpa using blk_set hr 0 (.int .i64 y0)
  exact IsRec.set_12 (IsRec.set_11 (IsRec.set_10 (IsRec.set_9 (IsRec.set_8 (IsRec.set_7 (IsRec.set_6 (IsRec.set_5 (IsRec.set_4 (IsRec.set_3 (IsRec.set_2 (IsRec.set_1 h0 y1) y2) y3) y4) y5) y6) y7) y8) y9) y10) y11) y12
end
theorem below13 {w W : World} {h : Nat} {v0 v1 v2 v3 v4 v5 v6 v7 v8 v9 v10 v11 v12 : Value} (hb : Below w.heap.size w W) (hg : w.heap.size ≤ h) : Below w.heap.size w (((((((((((((W.setCell ⟨h, 0, none⟩ v0).setCell ⟨h, 1, none⟩ v1).setCell ⟨h, 2, none⟩ v2).setCell ⟨h, 3, none⟩ v3).setCell ⟨h, 4, none⟩ v4).setCell ⟨h, 5, none⟩ v5).setCell ⟨h, 6, none⟩ v6).setCell ⟨h, 7, none⟩ v7).setCell ⟨h, 8, none⟩ v8).setCell ⟨h, 9, none⟩ v9).setCell ⟨h, 10, none⟩ v10).setCell ⟨h, 11, none⟩ v11).setCell ⟨h, 12, none⟩ v12) := below_set (below_set (below_set (below_set (below_set (below_set (below_set (below_set (below_set (below_set (below_set (below_set (below_set hb hg) hg) hg) hg) hg) hg) hg) hg) hg) hg) hg) hg) hg
abbrev RdT := ByteArray × Int × Int
/-- A text, if it is wanted. -/
def textIf (k : Nat) (yes : Bool) (old : ByteArray) (s : ByteArray) (p e most : Int) : Option (ByteArray × RdT) := if yes then pack_Reader_Text.f k s p e most else some (old, s, p, e)
def rec_readChange.f (k : Nat) (s : ByteArray) (p e act : Int) (o n : ByteArray) : Option (Int × ByteArray × ByteArray × ByteArray × RdT) :=
  (pack_Reader_Num.f s p e 2).bind fun a => (pack_Reader_Text.f k a.2.1 a.2.2.1 a.2.2.2 16).bind fun b => (textIf k (act != 3) o b.2.1 b.2.2.1 b.2.2.2 32).bind fun c => (textIf k (act != 4) n c.2.1 c.2.2.1 c.2.2.2 32).bind fun d => some (a.1, b.1, c.1, d.1, d.2)
set_option maxHeartbeats 4000000 in
set_option maxRecDepth 100000 in
theorem rec_readChange.calls (kf : Nat) (g h : Nat) (s : ByteArray) (p e act : Int) (x0 x1 x2 x3 x4 : Int) (k o n : ByteArray) (x8 : Int) (vI vT : Value) (x11 x12 : Int) (pg : Int) (ky od nw : ByteArray) (s' : ByteArray) (p' e' : Int) (w0 w : World) (hI : IsS124 w0 w g s p e) (hR : IsRec w h x0 x1 x2 x3 x4 k o n x8 vI vT x11 x12) (hh : w0.heap.size ≤ h) (hB : Below w0.heap.size w0 w) (hf : rec_readChange.f kf s p e act o n = some (pg, ky, od, nw, s', p', e')) :
    Calls Tryz.prog 86 #[.pointer (some ⟨g, 0, none⟩), .pointer (some ⟨h, 0, none⟩), .int .i64 act] w fun x w' => x = .returned (.tuple #[]) ∧ IsS124 w0 w' g s' p' e' ∧ IsRec w' h x0 x1 x2 pg x4 ky od nw x8 vI vT x11 x12 ∧ Below w0.heap.size w0 w' := by
  unfold rec_readChange.f at hf
  replace hf := Option.bind_eq_some_iff.mp hf
  obtain ⟨⟨a, a1, a2, a3⟩, ha, hf⟩ := hf
  replace hf := Option.bind_eq_some_iff.mp hf
  obtain ⟨⟨b, b1, b2, b3⟩, hb, hf⟩ := hf
  replace hf := Option.bind_eq_some_iff.mp hf
  obtain ⟨⟨c, c1, c2, c3⟩, hc, hf⟩ := hf
  replace hf := Option.bind_eq_some_iff.mp hf
  obtain ⟨⟨d, d1, d2, d3⟩, hd, hf⟩ := hf
  simp only [Option.some.injEq, Prod.mk.injEq] at hf
  obtain ⟨rfl, rfl, rfl, rfl, rfl, rfl, rfl⟩ := hf
  have I0 := Aside0.mk hI; have R0 := Aside0.mk hR; have B0 := Aside0.mk hB; have HH := Aside0.mk hh
  have HNE := Aside0.mk (show h ≠ g from fun e => IsS124.ne_blk hI hR (by decide) e.symm)
  have A := Aside0.mk ha; have BB := Aside0.mk hb; clear hI hR hh hB ha hb
  by_cases h3 : act = 3
  · have t3 : (act != 3) = false := bne_eq_false_iff_eq.mpr (by omega)
    have u3 : (act == 3) = true := beq_iff_eq.mpr (by omega)
    have t4 : (act != 4) = true := bne_iff_ne.mpr (by omega)
    have u4 : (act == 4) = false := beq_eq_false_iff_ne.mpr (by omega)
    rw [textIf, t3, if_neg (by simp)] at hc
    simp only [Option.some.injEq, Prod.mk.injEq] at hc
    obtain ⟨rfl, rfl, rfl, rfl⟩ := hc
    rw [textIf, t4, if_pos rfl] at hd
    have D := Aside0.mk hd; clear hd
    go_enter Tryz.func86, Tryz.ntmps86
    go_wp2_with fail
    refine (pack_Reader_Num.calls g s p e 2 a a1 a2 a3 w0 _ I0.out B0.out A.out).mono ?_
    rintro x w1 ⟨rfl, q1, q2, q3⟩
    have I1 := Aside0.mk q1; have B1 := Aside0.mk q2; have R1 := Aside0.mk (IsRec.keep R0.out q3 HNE.out); have cf1 := IsRec.cell_3 R1.out; have ff1 := IsRec.free R1.out 3; clear q1 q2 q3
    go_wp2_with fail
    refine (pack_Reader_Text.calls kf g a1 a2 a3 16 b b1 b2 b3 w0 _ (IsS124.far I1.out (fun e => HNE.out e.symm) _) (below_set B1.out HH.out) BB.out).mono ?_
    rintro x w2 ⟨rfl, q1, q2, q3⟩
    have I2 := Aside0.mk q1; have B2 := Aside0.mk q2; have R2 := Aside0.mk (IsRec.keep (IsRec.set_3 R1.out a) q3 HNE.out); have cf2 := IsRec.cell_5 R2.out; have ff2 := IsRec.free R2.out 5; clear q1 q2 q3
    go_wp2_with fail
    refine (pack_Reader_Text.calls kf g b1 b2 b3 32 d d1 d2 d3 w0 _ (IsS124.far I2.out (fun e => HNE.out e.symm) _) (below_set B2.out HH.out) D.out).mono ?_
    rintro x w4 ⟨rfl, q1, q2, q3⟩
    have I4 := Aside0.mk q1; have B4 := Aside0.mk q2; have R4 := Aside0.mk (IsRec.keep (IsRec.set_5 R2.out b) q3 HNE.out); have cf4 := IsRec.cell_7 R4.out; have ff4 := IsRec.free R4.out 7; clear q1 q2 q3
    go_wp2_with fail
    first | go_end0 | ((try simp only [Exit.inBlock, Exit.then]); refine bodyPost_ret (results_none rfl _ _ _) rfl ?_)
    exact ⟨rfl, IsS124.far I4.out (fun e => HNE.out e.symm) _, (IsRec.set_7 R4.out d), below_set B4.out HH.out⟩
  · by_cases h4 : act = 4
    · have t3 : (act != 3) = true := bne_iff_ne.mpr (by omega)
      have u3 : (act == 3) = false := beq_eq_false_iff_ne.mpr (by omega)
      have t4 : (act != 4) = false := bne_eq_false_iff_eq.mpr (by omega)
      have u4 : (act == 4) = true := beq_iff_eq.mpr (by omega)
      rw [textIf, t3, if_pos rfl] at hc
      have C := Aside0.mk hc; clear hc
      rw [textIf, t4, if_neg (by simp)] at hd
      simp only [Option.some.injEq, Prod.mk.injEq] at hd
      obtain ⟨rfl, rfl, rfl, rfl⟩ := hd
      go_enter Tryz.func86, Tryz.ntmps86
      go_wp2_with fail
      refine (pack_Reader_Num.calls g s p e 2 a a1 a2 a3 w0 _ I0.out B0.out A.out).mono ?_
      rintro x w1 ⟨rfl, q1, q2, q3⟩
      have I1 := Aside0.mk q1; have B1 := Aside0.mk q2; have R1 := Aside0.mk (IsRec.keep R0.out q3 HNE.out); have cf1 := IsRec.cell_3 R1.out; have ff1 := IsRec.free R1.out 3; clear q1 q2 q3
      go_wp2_with fail
      refine (pack_Reader_Text.calls kf g a1 a2 a3 16 b b1 b2 b3 w0 _ (IsS124.far I1.out (fun e => HNE.out e.symm) _) (below_set B1.out HH.out) BB.out).mono ?_
      rintro x w2 ⟨rfl, q1, q2, q3⟩
      have I2 := Aside0.mk q1; have B2 := Aside0.mk q2; have R2 := Aside0.mk (IsRec.keep (IsRec.set_3 R1.out a) q3 HNE.out); have cf2 := IsRec.cell_5 R2.out; have ff2 := IsRec.free R2.out 5; clear q1 q2 q3
      go_wp2_with fail
      refine (pack_Reader_Text.calls kf g b1 b2 b3 32 c c1 c2 c3 w0 _ (IsS124.far I2.out (fun e => HNE.out e.symm) _) (below_set B2.out HH.out) C.out).mono ?_
      rintro x w3 ⟨rfl, q1, q2, q3⟩
      have I3 := Aside0.mk q1; have B3 := Aside0.mk q2; have R3 := Aside0.mk (IsRec.keep (IsRec.set_5 R2.out b) q3 HNE.out); have cf3 := IsRec.cell_6 R3.out; have ff3 := IsRec.free R3.out 6; clear q1 q2 q3
      go_wp2_with fail
      first | go_end0 | ((try simp only [Exit.inBlock, Exit.then]); refine bodyPost_ret (results_none rfl _ _ _) rfl ?_)
      exact ⟨rfl, IsS124.far I3.out (fun e => HNE.out e.symm) _, (IsRec.set_6 R3.out c), below_set B3.out HH.out⟩
    · have t3 : (act != 3) = true := bne_iff_ne.mpr (by omega)
      have u3 : (act == 3) = false := beq_eq_false_iff_ne.mpr (by omega)
      have t4 : (act != 4) = true := bne_iff_ne.mpr (by omega)
      have u4 : (act == 4) = false := beq_eq_false_iff_ne.mpr (by omega)
      rw [textIf, t3, if_pos rfl] at hc
      have C := Aside0.mk hc; clear hc
      rw [textIf, t4, if_pos rfl] at hd
      have D := Aside0.mk hd; clear hd
      go_enter Tryz.func86, Tryz.ntmps86
      go_wp2_with fail
      refine (pack_Reader_Num.calls g s p e 2 a a1 a2 a3 w0 _ I0.out B0.out A.out).mono ?_
      rintro x w1 ⟨rfl, q1, q2, q3⟩
      have I1 := Aside0.mk q1; have B1 := Aside0.mk q2; have R1 := Aside0.mk (IsRec.keep R0.out q3 HNE.out); have cf1 := IsRec.cell_3 R1.out; have ff1 := IsRec.free R1.out 3; clear q1 q2 q3
      go_wp2_with fail
      refine (pack_Reader_Text.calls kf g a1 a2 a3 16 b b1 b2 b3 w0 _ (IsS124.far I1.out (fun e => HNE.out e.symm) _) (below_set B1.out HH.out) BB.out).mono ?_
      rintro x w2 ⟨rfl, q1, q2, q3⟩
      have I2 := Aside0.mk q1; have B2 := Aside0.mk q2; have R2 := Aside0.mk (IsRec.keep (IsRec.set_3 R1.out a) q3 HNE.out); have cf2 := IsRec.cell_5 R2.out; have ff2 := IsRec.free R2.out 5; clear q1 q2 q3
      go_wp2_with fail
      refine (pack_Reader_Text.calls kf g b1 b2 b3 32 c c1 c2 c3 w0 _ (IsS124.far I2.out (fun e => HNE.out e.symm) _) (below_set B2.out HH.out) C.out).mono ?_
      rintro x w3 ⟨rfl, q1, q2, q3⟩
      have I3 := Aside0.mk q1; have B3 := Aside0.mk q2; have R3 := Aside0.mk (IsRec.keep (IsRec.set_5 R2.out b) q3 HNE.out); have cf3 := IsRec.cell_6 R3.out; have ff3 := IsRec.free R3.out 6; clear q1 q2 q3
      go_wp2_with fail
      refine (pack_Reader_Text.calls kf g c1 c2 c3 32 d d1 d2 d3 w0 _ (IsS124.far I3.out (fun e => HNE.out e.symm) _) (below_set B3.out HH.out) D.out).mono ?_
      rintro x w4 ⟨rfl, q1, q2, q3⟩
      have I4 := Aside0.mk q1; have B4 := Aside0.mk q2; have R4 := Aside0.mk (IsRec.keep (IsRec.set_6 R3.out c) q3 HNE.out); have cf4 := IsRec.cell_7 R4.out; have ff4 := IsRec.free R4.out 7; clear q1 q2 q3
      go_wp2_with fail
      first | go_end0 | ((try simp only [Exit.inBlock, Exit.then]); refine bodyPost_ret (results_none rfl _ _ _) rfl ?_)
      exact ⟨rfl, IsS124.far I4.out (fun e => HNE.out e.symm) _, (IsRec.set_7 R4.out d), below_set B4.out HH.out⟩
end Go.Proofs.YteoebfiacnploaaGreatDoor.HRec
namespace Go.Proofs.YteoebfiacnploaaGreatDoor.HRec
open Go.RowKit Go.Proofs.YteoebfiacnploaaGreatDoorW.PrintWords Go.Proofs.YteoebfiacnploaaGreatDoorW.PrintLast Go.Proofs.YteoebfiacnploaaGreatDoorW.PrintMore
set_option linter.unusedVariables false
set_option linter.unusedSimpArgs false
set_option maxHeartbeats 8000000 in
set_option maxRecDepth 100000 in
theorem tidy_3 (h : Nat) (z : ByteArray) (w : World) (c : w.cell? ⟨h, 6, none⟩ = some (.string z)) (f : w.frozen? ⟨h, 6, none⟩ = false) :
    Calls Tryz.prog 61 #[.pointer (some ⟨h, 0, none⟩), .int .i64 3] w fun e w' => e = .returned (.tuple #[]) ∧ w' = w.setCell ⟨h, 6, none⟩ (.string ⟨#[]⟩) := by
  go_enter Tryz.func61, Tryz.ntmps61
  go_wp2_with fail
  first | go_end0 | ((try simp only [Exit.inBlock, Exit.then]); refine bodyPost_ret (results_none rfl _ _ _) rfl ?_)
  exact ⟨rfl, rfl⟩
set_option maxHeartbeats 8000000 in
set_option maxRecDepth 100000 in
theorem tidy_4 (h : Nat) (z : ByteArray) (w : World) (c : w.cell? ⟨h, 7, none⟩ = some (.string z)) (f : w.frozen? ⟨h, 7, none⟩ = false) :
    Calls Tryz.prog 61 #[.pointer (some ⟨h, 0, none⟩), .int .i64 4] w fun e w' => e = .returned (.tuple #[]) ∧ w' = w.setCell ⟨h, 7, none⟩ (.string ⟨#[]⟩) := by
  go_enter Tryz.func61, Tryz.ntmps61
  go_wp2_with fail
  first | go_end0 | ((try simp only [Exit.inBlock, Exit.then]); refine bodyPost_ret (results_none rfl _ _ _) rfl ?_)
  exact ⟨rfl, rfl⟩
set_option maxHeartbeats 8000000 in
set_option maxRecDepth 100000 in
theorem tidy_0 (h : Nat) (act : Int) (w : World) (m3 : (act == 3) = false) (m4 : (act == 4) = false) :
    Calls Tryz.prog 61 #[.pointer (some ⟨h, 0, none⟩), .int .i64 act] w fun e w' => e = .returned (.tuple #[]) ∧ w' = w := by
  go_enter Tryz.func61, Tryz.ntmps61
  go_wp2_with fail
  first | go_end0 | ((try simp only [Exit.inBlock, Exit.then]); refine bodyPost_ret (results_none rfl _ _ _) rfl ?_)
  exact ⟨rfl, rfl⟩
end Go.Proofs.YteoebfiacnploaaGreatDoor.HRec
