/- Texts of this proof, put together: DiskB, MapLaws, RegKit, HookRi, DiskC. They prove no statement. -/
import Derived.Test.YteoebfiacnploaaGreatQG2
import Derived.Maps.RangeRun
import Derived.Maps.Keyed
import Derived.BigRegion
import Derived.Test.YteoebfiacnploaaGreatQG1
namespace Go.Proofs.YteoebfiacnploaaGreat.HRec
open Go.RowKit Go.Proofs.YteoebfiacnploaaGreatW.PrintWords Go.Proofs.YteoebfiacnploaaGreatW.PrintLast Go.Proofs.YteoebfiacnploaaGreatW.PrintMore
set_option linter.unusedVariables false
set_option linter.unusedSimpArgs false
def zerosB (n : Nat) : ByteArray := ⟨(Lib.repeatL (⟨#[0]⟩ : ByteArray).data.toList n).toArray⟩
theorem zerosB_size (n : Nat) : (zerosB n).size = n := by
  show (Lib.repeatL (⟨#[0]⟩ : ByteArray).data.toList n).toArray.size = n
  rw [List.size_toArray, Lib.repeatL_length]
  simp
def wholeB (s : ByteArray) : ByteArray := s ++ zerosB (64 - s.size)
set_option maxHeartbeats 4000000 in
theorem disk_whole (s : ByteArray) (w : World) (hs : s.size ≤ 64) :
    Calls Tryz.prog 68 #[.string s] w fun e w' => e = .returned (.string (wholeB s)) ∧ Below w.heap.size w w' := by
  have hw : wrap64 (64 - (s.size : Int)) = 64 - (s.size : Int) := by unfold wrap64; omega
  have hzs := zerosB_size (64 - s.size)
  have h1 : (⟨#[0]⟩ : ByteArray).size = 1 := rfl
  have hle : (⟨#[0]⟩ : ByteArray).size * (64 - s.size) ≤ 140737488355328 := by rw [h1]; omega
  have hr := Tryz.strings_Repeat ⟨#[0]⟩ (64 - s.size) w (by omega) hle
  rw [show ((64 - s.size : Nat) : Int) = 64 - (s.size : Int) from by omega] at hr
  clear h1 hle
  unfold wholeB
  unfold zerosB at hzs ⊢
  generalize (⟨(Lib.repeatL (⟨#[0]⟩ : ByteArray).data.toList (64 - s.size)).toArray⟩ : ByteArray) = z at *
  have hb : s.size + z.size ≤ 9223372036854775807 := by omega
  have HR := Aside0.mk hr; clear hr
  go_enter Tryz.func68, Tryz.ntmps68
  go_wp2_with fail
  refine (HR.out).mono ?_
  rintro e w1 ⟨rfl, hb1⟩
  have HB := Aside0.mk hb1; clear hb1
  go_wp2_with fail
  go_ret
  exact ⟨rfl, HB.out⟩
end Go.Proofs.YteoebfiacnploaaGreat.HRec
namespace Go.Proofs.YteoebfiacnploaaGreat.HRec
open Go.RowKit Go.Proofs.YteoebfiacnploaaGreatW.PrintWords Go.Proofs.YteoebfiacnploaaGreatW.PrintLast Go.Proofs.YteoebfiacnploaaGreatW.PrintMore
open Go.ChangeMaps (setBlock)
set_option linter.unusedVariables false
set_option linter.unusedSimpArgs false
theorem run_check (W : World) (e : Bool) (i : Int) : (Instr.checkKey e 10000 3 (.int .i64 i)).run Tryz.prog W = .ok () W := by
  generalize hn : (10000 : Nat) = n
  obtain ⟨m, rfl⟩ : ∃ m, n = m + 1 := ⟨n - 1, by omega⟩
  simp [Instr.checkKey, run_underlying Tryz.underlying3]
theorem run_zero9 (W : World) : (zeroValue 9).run Tryz.prog W = .ok (.string ⟨#[]⟩) W := by
  have h := info9
  simp only [Option.map_eq_some_iff, Prod.mk.injEq] at h
  obtain ⟨a, h1, h2, _⟩ := h
  simp [zeroValue, typeInfo, Sem.run, h1, h2, Result.andThen]
theorem run_look0 {W : World} {m c : Nat} (hm : W.heap[m]? = some (.map #[] c)) (i : Int) (h0 : 0 ≤ i) (h1 : i < 1000000) : (Instr.lookup 75 (.map (some m)) (.int .i64 i) true).run Tryz.prog W = .ok (.tuple #[.string ⟨#[]⟩, .bool false]) W := by
  simp [Instr.lookup, run_underlying Tryz.underlying75, MapKept.run_getObj_map hm, run_check, run_zero9, Result.andThen, Instr.findKey, run_underlying Tryz.underlying3, Instr.findNow]
theorem run_put0 {W : World} {m c : Nat} (hm : W.heap[m]? = some (.map #[] c)) (i : Int) (h0 : 0 ≤ i) (h1 : i < 1000000) (v : Value) : (Instr.mapUpdate 75 (.map (some m)) (.int .i64 i) v).run Tryz.prog W = .ok () (setBlock W m (.map #[⟨.int .i64 i, v, c⟩] (c + 1))) := by
  simp [Instr.mapUpdate, run_underlying Tryz.underlying75, MapKept.run_getObj_map hm, run_check, Result.andThen, Instr.findKey, run_underlying Tryz.underlying3, Instr.findNow, MapKept.run_setObj_map _ hm, setBlock]
theorem run_clear1 {W : World} {m c : Nat} {es : Array MapEntry} (hm : W.heap[m]? = some (.map es c)) : (Builtin.clear_ #[75] 0 #[.map (some m)]).run Tryz.prog W = .ok (.tuple #[]) (setBlock W m (.map #[] c)) := by
  simp [Builtin.clear_, run_underlying Tryz.underlying75, MapKept.run_getObj_map hm, Result.andThen, MapKept.run_setObj_map _ hm, setBlock]
theorem run_range1 {W : World} {m c : Nat} {es : Array MapEntry} (hm : W.heap[m]? = some (.map es c)) : (Instr.range 75 (.map (some m))).run Tryz.prog W = .ok (.pointer (some ⟨W.heap.size, 0, none⟩)) (W.alloc (.mapIter (some m) c #[] c)) := by
  simp [Instr.range, run_underlying Tryz.underlying75, MapKept.run_getObj_map hm, Result.andThen]
theorem run_next1 {W : World} (ty : TypeId) {r m : Nat} {k v : Value} (hr : W.heap[r]? = some (.mapIter (some m) 1 #[] 1)) (hm : W.heap[m]? = some (.map #[⟨k, v, 0⟩] 1)) : ∃ w1 : World, (w1 = W ∨ w1 = W.drew) ∧ (Instr.next (.pointer (some ⟨r, 0, none⟩)) false ty).run Tryz.prog W = .ok (.tuple #[.bool true, k, v]) (setBlock w1 r (.mapIter (some m) 1 #[0] 1)) := by
  rcases run_next_at (P := Tryz.prog) W ty r m 1 1 #[] #[⟨k, v, 0⟩] 1 hr hm (by simp) (Nat.le_refl _) with ⟨h, _⟩ | ⟨e, he, w1, hw, hrun⟩
  · exact absurd h (by simp [leftOf])
  · simp [leftOf] at he
    subst he
    exact ⟨w1, hw, hrun⟩
theorem run_next0 {W : World} (ty : TypeId) {r m : Nat} {k v : Value} (hr : W.heap[r]? = some (.mapIter (some m) 1 #[0] 1)) (hm : W.heap[m]? = some (.map #[⟨k, v, 0⟩] 1)) : (Instr.next (.pointer (some ⟨r, 0, none⟩)) false ty).run Tryz.prog W = .ok (.tuple #[.bool false]) W := by
  rcases run_next_at (P := Tryz.prog) W ty r m 1 1 #[0] #[⟨k, v, 0⟩] 1 hr hm (by simp) (Nat.le_refl _) with ⟨_, h⟩ | ⟨e, he, w1, hw, hrun⟩
  · exact h
  · simp [leftOf] at he
theorem run_entry1 {W : World} {r m : Nat} {k v : Value} (hr : W.heap[r]? = some (.mapIter (some m) 1 #[0] 1)) (hm : W.heap[m]? = some (.map #[⟨k, v, 0⟩] 1)) : (Instr.entry (.pointer (some ⟨r, 0, none⟩))).run Tryz.prog W = .ok (.tuple #[k, v]) W :=
  run_entry_at (P := Tryz.prog) W r m 1 #[] #[⟨k, v, 0⟩] 1 ⟨k, v, 0⟩ hr hm (by simp) (by simp)
end Go.Proofs.YteoebfiacnploaaGreat.HRec
namespace Go.Proofs.YteoebfiacnploaaGreat.HRec
open Go.RowKit Go.Proofs.YteoebfiacnploaaGreatW.PrintWords Go.Proofs.YteoebfiacnploaaGreatW.PrintLast Go.Proofs.YteoebfiacnploaaGreatW.PrintMore
set_option linter.unusedVariables false
set_option linter.unusedSimpArgs false
theorem heap_of_cell {W : World} {p : Addr} {v : Value} (h : W.cell? p = some v) : p.block < W.heap.size := by
  by_cases hb : p.block < W.heap.size
  · exact hb
  · exfalso
    have hn : W.heap[p.block]? = none := Array.getElem?_eq_none (by omega)
    simp [World.cell?, hn] at h
theorem below_cell {W w' : World} {p : Addr} {v : Value} (hs : Below W.heap.size W w') (h : W.cell? p = some v) : w'.cell? p = some v := (Below.cell hs (heap_of_cell h)).trans h
theorem at_int {w : World} {A : Option Addr} {n : Nat} {xs : List Int} (h : (Kd.int .i64).C w A n xs) (i : Int) (h0 : 0 ≤ i) (h1 : i < n) : ∃ ad, A = some ad ∧ w.cell? (ad.add i.toNat) = some (.int .i64 (rdOf 0 xs i)) := by
  obtain ⟨ad, c, e, _, hK, hc0⟩ := Kd.C_get h 0 i h0 h1
  have hc : ∀ j u, c[j]? = some u → w.cell? (ad.add (i.toNat * 1 + j)) = some u := hc0
  have hK : c = [.int .i64 (rdOf 0 xs i)] := hK
  subst hK
  have := hc 0 _ rfl
  rw [Nat.mul_one] at this
  exact ⟨ad, e, this⟩
end Go.Proofs.YteoebfiacnploaaGreat.HRec
namespace Go.Proofs.YteoebfiacnploaaGreat.HRec
open Go.RowKit Go.Proofs.YteoebfiacnploaaGreatW.PrintWords Go.Proofs.YteoebfiacnploaaGreatW.PrintLast Go.Proofs.YteoebfiacnploaaGreatW.PrintMore
set_option linter.unusedVariables false
set_option linter.unusedSimpArgs false
/-- All blocks but two are as they were. -/
def KeepX (g h : Nat) (w W : World) : Prop := w.heap.size ≤ W.heap.size ∧ ∀ i, i < w.heap.size → i ≠ g → i ≠ h → W.heap[i]? = w.heap[i]?
theorem KeepX.refl (g h : Nat) (w : World) : KeepX g h w w := ⟨Nat.le_refl _, fun _ _ _ _ => rfl⟩
theorem KeepX.call {g h : Nat} {w W W1 : World} (k : KeepX g h w W) (q : KeepBut W W1 g none) : KeepX g h w W1 := ⟨Nat.le_trans k.1 q.1, fun i hi hg hh => (q.2 i (Nat.lt_of_lt_of_le hi k.1) hg (by simp)).trans (k.2 i hi hg hh)⟩
theorem KeepX.set {g h : Nat} {w W : World} (k : KeepX g h w W) (j : Nat) (u : Value) : KeepX g h w (W.setCell ⟨h, j, none⟩ u) := ⟨by simpa [World.setCell] using k.1, fun i hi hg hh => (Below.heap_setCell W ⟨h, j, none⟩ u i hh).trans (k.2 i hi hg hh)⟩
set_option maxHeartbeats 4000000 in
set_option maxRecDepth 100000 in
theorem rec_readChange.calls2 (kf : Nat) (g h : Nat) (s : ByteArray) (p e act : Int) (x0 x1 x2 x3 x4 : Int) (k o n : ByteArray) (x8 : Int) (vI vT : Value) (x11 x12 : Int) (pg : Int) (ky od nw : ByteArray) (s' : ByteArray) (p' e' : Int) (w0 w : World) (hI : IsS124 w0 w g s p e) (hR : IsRec w h x0 x1 x2 x3 x4 k o n x8 vI vT x11 x12) (hh : w0.heap.size ≤ h) (hB : Below w0.heap.size w0 w) (hf : rec_readChange.f kf s p e act o n = some (pg, ky, od, nw, s', p', e')) :
    Calls Tryz.prog 76 #[.pointer (some ⟨g, 0, none⟩), .pointer (some ⟨h, 0, none⟩), .int .i64 act] w fun x w' => x = .returned (.tuple #[]) ∧ IsS124 w0 w' g s' p' e' ∧ IsRec w' h x0 x1 x2 pg x4 ky od nw x8 vI vT x11 x12 ∧ Below w0.heap.size w0 w' ∧ KeepX g h w w' := by
  unfold rec_readChange.f at hf
  replace hf := Option.bind_eq_some_iff.mp hf
  obtain ⟨⟨a, a1, a2, a3⟩, ha, hf⟩ := hf
  replace hf := Option.bind_eq_some_iff.mp hf
  obtain ⟨⟨b, b1, b2, b3⟩, hb, hf⟩ := hf
  replace hf := Option.bind_eq_some_iff.mp hf
  obtain ⟨⟨c, c1, c2, c3⟩, hc, hf⟩ := hf
  replace hf := Option.bind_eq_some_iff.mp hf
  obtain ⟨⟨d, d1, d2, d3⟩, hd, hf⟩ := hf
  simp only [Option.some.injEq, Prod.mk.injEq] at hf
  obtain ⟨rfl, rfl, rfl, rfl, rfl, rfl, rfl⟩ := hf
  have I0 := Aside0.mk hI; have R0 := Aside0.mk hR; have B0 := Aside0.mk hB; have K0 := Aside0.mk (KeepX.refl g h w); have HH := Aside0.mk hh
  have HNE := Aside0.mk (show h ≠ g from fun e => IsS124.ne_blk hI hR (by decide) e.symm)
  have A := Aside0.mk ha; have BB := Aside0.mk hb; clear hI hR hh hB ha hb
  by_cases h3 : act = 3
  · have t3 : (act != 3) = false := bne_eq_false_iff_eq.mpr (by omega)
    have u3 : (act == 3) = true := beq_iff_eq.mpr (by omega)
    have t4 : (act != 4) = true := bne_iff_ne.mpr (by omega)
    have u4 : (act == 4) = false := beq_eq_false_iff_ne.mpr (by omega)
    rw [textIf, t3, if_neg (by simp)] at hc
    simp only [Option.some.injEq, Prod.mk.injEq] at hc
    obtain ⟨rfl, rfl, rfl, rfl⟩ := hc
    rw [textIf, t4, if_pos rfl] at hd
    have D := Aside0.mk hd; clear hd
    go_enter Tryz.func76, Tryz.ntmps76
    go_wp2_with fail
    refine (pack_Reader_Num.calls g s p e 2 a a1 a2 a3 w0 _ I0.out B0.out A.out).mono ?_
    rintro x w1 ⟨rfl, q1, q2, q3⟩
    have I1 := Aside0.mk q1; have B1 := Aside0.mk q2; have R1 := Aside0.mk (IsRec.keep R0.out q3 HNE.out); have K1 := Aside0.mk (KeepX.call K0.out q3); have cf1 := IsRec.cell_3 R1.out; have ff1 := IsRec.free R1.out 3; clear q1 q2 q3
    go_wp2_with fail
    refine (pack_Reader_Text.calls kf g a1 a2 a3 16 b b1 b2 b3 w0 _ (IsS124.far I1.out (fun e => HNE.out e.symm) _) (below_set B1.out HH.out) BB.out).mono ?_
    rintro x w2 ⟨rfl, q1, q2, q3⟩
    have I2 := Aside0.mk q1; have B2 := Aside0.mk q2; have R2 := Aside0.mk (IsRec.keep (IsRec.set_3 R1.out a) q3 HNE.out); have K2 := Aside0.mk (KeepX.call (KeepX.set K1.out 3 _) q3); have cf2 := IsRec.cell_5 R2.out; have ff2 := IsRec.free R2.out 5; clear q1 q2 q3
    go_wp2_with fail
    refine (pack_Reader_Text.calls kf g b1 b2 b3 32 d d1 d2 d3 w0 _ (IsS124.far I2.out (fun e => HNE.out e.symm) _) (below_set B2.out HH.out) D.out).mono ?_
    rintro x w4 ⟨rfl, q1, q2, q3⟩
    have I4 := Aside0.mk q1; have B4 := Aside0.mk q2; have R4 := Aside0.mk (IsRec.keep (IsRec.set_5 R2.out b) q3 HNE.out); have K4 := Aside0.mk (KeepX.call (KeepX.set K2.out 5 _) q3); have cf4 := IsRec.cell_7 R4.out; have ff4 := IsRec.free R4.out 7; clear q1 q2 q3
    go_wp2_with fail
    first | go_end0 | ((try simp only [Exit.inBlock, Exit.then]); refine bodyPost_ret (results_none rfl _ _ _) rfl ?_)
    exact ⟨rfl, IsS124.far I4.out (fun e => HNE.out e.symm) _, (IsRec.set_7 R4.out d), below_set B4.out HH.out, (KeepX.set K4.out 7 _)⟩
  · by_cases h4 : act = 4
    · have t3 : (act != 3) = true := bne_iff_ne.mpr (by omega)
      have u3 : (act == 3) = false := beq_eq_false_iff_ne.mpr (by omega)
      have t4 : (act != 4) = false := bne_eq_false_iff_eq.mpr (by omega)
      have u4 : (act == 4) = true := beq_iff_eq.mpr (by omega)
      rw [textIf, t3, if_pos rfl] at hc
      have C := Aside0.mk hc; clear hc
      rw [textIf, t4, if_neg (by simp)] at hd
      simp only [Option.some.injEq, Prod.mk.injEq] at hd
      obtain ⟨rfl, rfl, rfl, rfl⟩ := hd
      go_enter Tryz.func76, Tryz.ntmps76
      go_wp2_with fail
      refine (pack_Reader_Num.calls g s p e 2 a a1 a2 a3 w0 _ I0.out B0.out A.out).mono ?_
      rintro x w1 ⟨rfl, q1, q2, q3⟩
      have I1 := Aside0.mk q1; have B1 := Aside0.mk q2; have R1 := Aside0.mk (IsRec.keep R0.out q3 HNE.out); have K1 := Aside0.mk (KeepX.call K0.out q3); have cf1 := IsRec.cell_3 R1.out; have ff1 := IsRec.free R1.out 3; clear q1 q2 q3
      go_wp2_with fail
      refine (pack_Reader_Text.calls kf g a1 a2 a3 16 b b1 b2 b3 w0 _ (IsS124.far I1.out (fun e => HNE.out e.symm) _) (below_set B1.out HH.out) BB.out).mono ?_
      rintro x w2 ⟨rfl, q1, q2, q3⟩
      have I2 := Aside0.mk q1; have B2 := Aside0.mk q2; have R2 := Aside0.mk (IsRec.keep (IsRec.set_3 R1.out a) q3 HNE.out); have K2 := Aside0.mk (KeepX.call (KeepX.set K1.out 3 _) q3); have cf2 := IsRec.cell_5 R2.out; have ff2 := IsRec.free R2.out 5; clear q1 q2 q3
      go_wp2_with fail
      refine (pack_Reader_Text.calls kf g b1 b2 b3 32 c c1 c2 c3 w0 _ (IsS124.far I2.out (fun e => HNE.out e.symm) _) (below_set B2.out HH.out) C.out).mono ?_
      rintro x w3 ⟨rfl, q1, q2, q3⟩
      have I3 := Aside0.mk q1; have B3 := Aside0.mk q2; have R3 := Aside0.mk (IsRec.keep (IsRec.set_5 R2.out b) q3 HNE.out); have K3 := Aside0.mk (KeepX.call (KeepX.set K2.out 5 _) q3); have cf3 := IsRec.cell_6 R3.out; have ff3 := IsRec.free R3.out 6; clear q1 q2 q3
      go_wp2_with fail
      first | go_end0 | ((try simp only [Exit.inBlock, Exit.then]); refine bodyPost_ret (results_none rfl _ _ _) rfl ?_)
      exact ⟨rfl, IsS124.far I3.out (fun e => HNE.out e.symm) _, (IsRec.set_6 R3.out c), below_set B3.out HH.out, (KeepX.set K3.out 6 _)⟩
    · have t3 : (act != 3) = true := bne_iff_ne.mpr (by omega)
      have u3 : (act == 3) = false := beq_eq_false_iff_ne.mpr (by omega)
      have t4 : (act != 4) = true := bne_iff_ne.mpr (by omega)
      have u4 : (act == 4) = false := beq_eq_false_iff_ne.mpr (by omega)
      rw [textIf, t3, if_pos rfl] at hc
      have C := Aside0.mk hc; clear hc
      rw [textIf, t4, if_pos rfl] at hd
      have D := Aside0.mk hd; clear hd
      go_enter Tryz.func76, Tryz.ntmps76
      go_wp2_with fail
      refine (pack_Reader_Num.calls g s p e 2 a a1 a2 a3 w0 _ I0.out B0.out A.out).mono ?_
      rintro x w1 ⟨rfl, q1, q2, q3⟩
      have I1 := Aside0.mk q1; have B1 := Aside0.mk q2; have R1 := Aside0.mk (IsRec.keep R0.out q3 HNE.out); have K1 := Aside0.mk (KeepX.call K0.out q3); have cf1 := IsRec.cell_3 R1.out; have ff1 := IsRec.free R1.out 3; clear q1 q2 q3
      go_wp2_with fail
      refine (pack_Reader_Text.calls kf g a1 a2 a3 16 b b1 b2 b3 w0 _ (IsS124.far I1.out (fun e => HNE.out e.symm) _) (below_set B1.out HH.out) BB.out).mono ?_
      rintro x w2 ⟨rfl, q1, q2, q3⟩
      have I2 := Aside0.mk q1; have B2 := Aside0.mk q2; have R2 := Aside0.mk (IsRec.keep (IsRec.set_3 R1.out a) q3 HNE.out); have K2 := Aside0.mk (KeepX.call (KeepX.set K1.out 3 _) q3); have cf2 := IsRec.cell_5 R2.out; have ff2 := IsRec.free R2.out 5; clear q1 q2 q3
      go_wp2_with fail
      refine (pack_Reader_Text.calls kf g b1 b2 b3 32 c c1 c2 c3 w0 _ (IsS124.far I2.out (fun e => HNE.out e.symm) _) (below_set B2.out HH.out) C.out).mono ?_
      rintro x w3 ⟨rfl, q1, q2, q3⟩
      have I3 := Aside0.mk q1; have B3 := Aside0.mk q2; have R3 := Aside0.mk (IsRec.keep (IsRec.set_5 R2.out b) q3 HNE.out); have K3 := Aside0.mk (KeepX.call (KeepX.set K2.out 5 _) q3); have cf3 := IsRec.cell_6 R3.out; have ff3 := IsRec.free R3.out 6; clear q1 q2 q3
      go_wp2_with fail
      refine (pack_Reader_Text.calls kf g c1 c2 c3 32 d d1 d2 d3 w0 _ (IsS124.far I3.out (fun e => HNE.out e.symm) _) (below_set B3.out HH.out) D.out).mono ?_
      rintro x w4 ⟨rfl, q1, q2, q3⟩
      have I4 := Aside0.mk q1; have B4 := Aside0.mk q2; have R4 := Aside0.mk (IsRec.keep (IsRec.set_6 R3.out c) q3 HNE.out); have K4 := Aside0.mk (KeepX.call (KeepX.set K3.out 6 _) q3); have cf4 := IsRec.cell_7 R4.out; have ff4 := IsRec.free R4.out 7; clear q1 q2 q3
      go_wp2_with fail
      first | go_end0 | ((try simp only [Exit.inBlock, Exit.then]); refine bodyPost_ret (results_none rfl _ _ _) rfl ?_)
      exact ⟨rfl, IsS124.far I4.out (fun e => HNE.out e.symm) _, (IsRec.set_7 R4.out d), below_set B4.out HH.out, (KeepX.set K4.out 7 _)⟩
end Go.Proofs.YteoebfiacnploaaGreat.HRec
namespace Go.Proofs.YteoebfiacnploaaGreat.HRec
open Go.RowKit Go.Proofs.YteoebfiacnploaaGreatW.PrintWords Go.Proofs.YteoebfiacnploaaGreatW.PrintLast Go.Proofs.YteoebfiacnploaaGreatW.PrintMore
open Go.ChangeMaps (setBlock)
set_option linter.unusedVariables false
set_option linter.unusedSimpArgs false
def disk_Write.T9 : Bool × List (List Nat × List Nat) := (true, [([], []), ([0], [0]), ([1], [1]), ([2], [2]), ([], []), ([], []), ([5], [5]), ([3, 4, 6, 6, 0, 1, 2, 3, 4, 5, 6], [3, 4, 6])])
def disk_Write.B9 : List Nat := [0, 1, 3, 7, 0, 0, 32, 127]
theorem disk_Write.tab9 : rtab .any (opsOf Tryz.f72 9) = disk_Write.T9 := by kernel_rfl
theorem disk_Write.bits9 : waitsOk disk_Write.T9.2 disk_Write.B9 = true := by kernel_rfl
theorem rd_empty (n : Nat) (i : Int) : rdOf ByteArray.empty (List.replicate n (⟨#[]⟩ : ByteArray)) i = ⟨#[]⟩ := by
  unfold rdOf
  rw [List.getD_eq_getElem?_getD, List.getElem?_replicate]
  split <;> rfl
theorem block_other {W : World} {b k : Nat} (o : Obj) (h : k ≠ b) : (setBlock W b o).heap[k]? = W.heap[k]? := by
  show (W.heap.setIfInBounds b o)[k]? = W.heap[k]?
  rw [Array.getElem?_setIfInBounds_ne (fun e => h e.symm)]
theorem block_same {W : World} {b : Nat} (o : Obj) (h : b < W.heap.size) : (setBlock W b o).heap[b]? = some o := by
  show (W.heap.setIfInBounds b o)[b]? = some o
  rw [Array.getElem?_setIfInBounds_self_of_lt h]
theorem block_size {W : World} {b : Nat} (o : Obj) : (setBlock W b o).heap.size = W.heap.size := by
  show (W.heap.setIfInBounds b o).size = _
  simp
theorem block_below {w0 W : World} {b : Nat} (o : Obj) (h : Below w0.heap.size w0 W) (hb : w0.heap.size ≤ b) : Below w0.heap.size w0 (setBlock W b o) :=
  ⟨h.os, h.tape, h.output, by rw [block_size]; exact h.size, fun k hk => (block_other o (by omega)).trans (h.block k hk)⟩
set_option maxHeartbeats 8000000 in
set_option maxRecDepth 100000 in
theorem disk_Read (d m : Nat) (A : Option Addr) (c cl : Nat) (acts i : Int) (w : World) (h : IsDisk w d m A 200 c acts) (hm : w.heap[m]? = some (.map #[] cl)) (hr : Kd.string.C w A 200 (List.replicate 200 (⟨#[]⟩ : ByteArray))) (h0 : 0 ≤ i) (h1 : i < 200) :
    Calls Tryz.prog 44 #[.pointer (some ⟨d, 0, none⟩), .int .i64 i] w fun e w' => e = .returned (.tuple #[.string (wholeB ⟨#[]⟩), .int .i64 0]) ∧ Below w.heap.size w w' := by
  have c0 := IsDisk.at_0 h; have c1 := IsDisk.at_1 h; have hl := run_look0 hm i h0 (by omega)
  obtain ⟨ad, rfl, x0⟩ := Kd.at_string hr i h0 h1
  rw [rd_empty] at x0
  have HC := Aside0.mk (disk_check d m (some ad) 200 c acts i w h h0 (by omega))
  have HW := Aside0.mk (disk_whole ⟨#[]⟩ w (by decide))
  clear hr hm h
  go_enter Tryz.func44, Tryz.ntmps44
  go_wp2_with fail
  refine HC.out.mono ?_
  rintro e w1 ⟨rfl, hw⟩
  rw [hw]
  clear hw w1 HC
  go_wp2_with fail
  refine HW.out.mono ?_
  rintro e w1 ⟨rfl, hb⟩
  have HB := Aside0.mk hb; clear hb HW
  go_wp2_with fail
  go_ret2
  exact ⟨rfl, HB.out⟩
theorem KeepX.below {g h : Nat} {w W W1 : World} (hk : KeepX g h w W) (hb : Below W.heap.size W W1) : KeepX g h w W1 := ⟨Nat.le_trans hk.1 hb.size, fun i hi hg hh => (hb.block i (Nat.lt_of_lt_of_le hi hk.1)).trans (hk.2 i hi hg hh)⟩
theorem KeepX.block {g h : Nat} {w W : World} (o : Obj) (hk : KeepX g h w W) : KeepX g h w (setBlock W h o) := ⟨by rw [block_size]; exact hk.1, fun i hi hg hh => (block_other o hh).trans (hk.2 i hi hg hh)⟩
set_option maxHeartbeats 8000000 in
set_option maxRecDepth 100000 in
theorem disk_Write (d m : Nat) (A : Option Addr) (c : Nat) (acts i : Int) (s : ByteArray) (w0 w : World) (h : IsDisk w d m A 200 c acts) (hm : w.heap[m]? = some (.map #[] 0)) (hdm : m ≠ d) (hB : Below w0.heap.size w0 w) (hd0 : w0.heap.size ≤ d) (hm0 : w0.heap.size ≤ m) (h0 : 0 ≤ i) (h1 : i < 200) (ha0 : 0 ≤ acts) (ha1 : acts ≤ 1000000) (hs : s.size ≤ 64) :
    Calls Tryz.prog 72 #[.pointer (some ⟨d, 0, none⟩), .int .i64 i, .string s] w fun e w' => e = .returned (.int .i64 0) ∧ IsDisk w' d m A 200 c (acts + 1) ∧ w'.heap[m]? = some (.map #[⟨.int .i64 i, .string (wholeB s), 0⟩] 1) ∧ Below w0.heap.size w0 w' ∧ KeepX d m w w' := by
  have HC := Aside0.mk (disk_check d m A 200 c acts i w h h0 (by omega)); have HA := Aside0.mk (disk_act d m A 200 c acts w0 w h hB hd0 ha0 ha1); have HMW := Aside0.mk hm; have HS := Aside0.mk hs; have HG := Aside0.mk hm0
  have b0 : decide ((64 : Int) < (s.size : Int)) = false := decide_eq_false (by omega)
  have hlt : m < w.heap.size := (Array.getElem?_eq_some_iff.1 hm).1
  clear h hB hm hs hm0
  go_enter Tryz.func72, Tryz.ntmps72
  go_wp2_with fail
  refine HC.out.mono ?_
  rintro e w1 ⟨rfl, hw⟩
  rw [hw]
  clear hw w1 HC
  go_wp2_with fail
  refine HA.out.mono ?_
  rintro e W1 ⟨rfl, hd1, hb1, hk1⟩
  have HD := Aside0.mk hd1; have HB := Aside0.mk hb1; have HM := Aside0.mk ((hk1.2 m hlt hdm (by simp)).trans HMW.out)
  have HK : Aside0 (KeepX d m w W1) := ⟨hk1.1, fun i hi hg hh => hk1.2 i hi hg (by simp)⟩
  clear hd1 hb1 hk1 HA HMW
  go_wp2_with fail
  refine start_ (n := 8) (S := fun w' => Below W1.drew.heap.size W1.drew w') (ds := [7]) #[false, false, false, false, false, false, false, false] (by kernel_rfl) rfl rfl (Below.refl _ _) (fun hHeld => ?_); refine with_tabW disk_Write.tab9 disk_Write.bits9 (fun HT_ HW_ => ?_)
  have HD2 : Aside0 (IsDisk W1.drew d m A 200 c (acts + 1)) := ⟨HD.out⟩
  have HM2 : Aside0 (W1.drew.heap[m]? = some (.map #[] 0)) := ⟨HM.out⟩
  have HB2 := Aside0.mk (below_drew HB.out)
  have HK2 : Aside0 (KeepX d m w W1.drew) := ⟨HK.out⟩
  have f1_ := Aside0.mk (IsDisk.at_1 HD2.out); clear HD HM HB HK
  generalize W1.drew = W0 at HD2 HM2 HB2 HK2 f1_ hHeld ⊢
  refine pure_ (i := 0) (N := some 23) (v := ?_) (a' := ?_) #[true, false, false, false, false, false, false, false] rfl rfl (any_of HT_.out (by kernel_rfl)) (fun _ _ _ h => h) (Or.inl ⟨by rfl, ?_⟩) ?_ ?_
  rotate_left
  · intro w'
    go_simp
    with_reducible rfl
  rotate_left
  · simp only [Act.put, List.setIfInBounds_toArray, List.set_cons_zero, List.set_cons_succ, i64_w, i32_w]
    rfl
  refine pure_ (i := 1) (N := some 24) (v := ?_) (a' := ?_) #[true, true, false, false, false, false, false, false] rfl rfl (any_of HT_.out (by kernel_rfl)) (fun _ _ _ h => h) (Or.inl ⟨by rfl, ?_⟩) ?_ ?_
  rotate_left
  · intro w'
    go_simp
    with_reducible rfl
  rotate_left
  · simp only [Act.put, List.setIfInBounds_toArray, List.set_cons_zero, List.set_cons_succ, i64_w, i32_w]
    rfl
  refine pure_ (i := 2) (N := some 25) (v := ?_) (a' := ?_) #[true, true, true, false, false, false, false, false] rfl rfl (any_of HT_.out (by kernel_rfl)) (fun _ _ _ h => h) (Or.inl ⟨by rfl, ?_⟩) ?_ ?_
  rotate_left
  · intro w'
    go_simp
    with_reducible rfl
  rotate_left
  · simp only [Act.put, List.setIfInBounds_toArray, List.set_cons_zero, List.set_cons_succ, i64_w, i32_w]
    rfl
  refine take_ (i := 3) (N := some 26) (v := ?_) (a' := ?_) #[true, true, true, true, false, false, false, false] rfl rfl (take_ofW HT_.out HW_.out (by kernel_rfl)) (fun _ _ _ h => h) (Or.inl ⟨by rfl, ?_⟩) hHeld ?_ ?_
  rotate_left
  · intro w' hs
    have s1 := below_cell hs f1_.out
    go_simp
    with_reducible rfl
  rotate_left
  · simp only [Act.put, List.setIfInBounds_toArray, List.set_cons_zero, List.set_cons_succ, i64_w, i32_w]
    rfl
  refine pure_ (i := 4) (N := some 27) (v := ?_) (a' := ?_) #[true, true, true, true, true, false, false, false] rfl rfl (any_of HT_.out (by kernel_rfl)) (fun _ _ _ h => h) (Or.inl ⟨by rfl, ?_⟩) ?_ ?_
  rotate_left
  · intro w'
    go_simp
    with_reducible rfl
  rotate_left
  · simp only [Act.put, List.setIfInBounds_toArray, List.set_cons_zero, List.set_cons_succ, i64_w, i32_w]
    rfl
  refine pure_ (i := 5) (N := some 28) (v := ?_) (a' := ?_) #[true, true, true, true, true, true, false, false] rfl rfl (any_of HT_.out (by kernel_rfl)) (fun _ _ _ h => h) (Or.inl ⟨by rfl, ?_⟩) ?_ ?_
  rotate_left
  · intro w'
    go_simp
    with_reducible rfl
  rotate_left
  · simp only [Act.put, List.setIfInBounds_toArray, List.set_cons_zero, List.set_cons_succ, i64_w, i32_w]
    rfl
  refine one_ (i := 6) (N := some 29) #[true, true, true, true, true, true, true, false] rfl rfl (one_of HT_.out (by kernel_rfl)) (by decide) (fun K hK => ?_)
  refine goes_ Tryz.func68 (by kernel_rfl) rfl #[.string s] (by rfl) rfl rfl (by (try simp only [List.map_toArray, List.map_cons, List.map_nil]); rfl) ?_
  refine (disk_whole s W0 HS.out).mono ?_
  rintro e w3 ⟨rfl, hb⟩
  refine ⟨_, rfl, ?_⟩
  refine hK.out _ _ hb (fun hHeld2 => ?_)
  clear hK K; have HD3 := Aside0.mk (IsDisk.below HD2.out hb)
  have HM3 := Aside0.mk ((hb.block m (Array.getElem?_eq_some_iff.1 HM2.out).1).trans HM2.out)
  have HB3 := Aside0.mk (below_step HB2.out hb); have HK3 := Aside0.mk (KeepX.below HK2.out hb); clear hb hHeld2 hHeld HD2 HM2 HB2 HK2
  refine norm_ (a' := ?_) ?_ ?_
  rotate_left
  · simp only [Act.put, List.setIfInBounds_toArray, List.set_cons_zero, List.set_cons_succ]
    rfl
  refine last_ (i := 7) (N := none) #[true, true, true, true, true, true, true, true] rfl rfl (one_of HT_.out (by kernel_rfl)) (by decide) (fun K hK => ?_)
  have hp := run_put0 HM3.out i h0 (by omega) (.string (wholeB s))
  with_reducible refine store_step (w1 := setBlock w3 m (.map #[⟨.int .i64 i, .string (wholeB s), 0⟩] 1)) ?hw ?hd ?hr ?_
  case hw => rfl
  case hd => rfl
  case hr => first | (go_simp; done) | (go_simp; rfl)
  refine hK.out _ _ ?_
  clear hK K hp
  refine done_ (done_of HT_.out (by kernel_rfl)) ?_
  have HM4 := Aside0.mk (block_same (W := w3) (.map #[⟨.int .i64 i, .string (wholeB s), 0⟩] 1) (Array.getElem?_eq_some_iff.1 HM3.out).1)
  have HD4 : Aside0 (IsDisk (setBlock w3 m (.map #[⟨.int .i64 i, .string (wholeB s), 0⟩] 1)) d m A 200 c (acts + 1)) := ⟨(block_other _ (fun e => hdm e.symm)).trans HD3.out⟩
  have HB4 := Aside0.mk (block_below (.map #[⟨.int .i64 i, .string (wholeB s), 0⟩] 1) HB3.out HG.out)
  have HK4 := Aside0.mk (KeepX.block (.map #[⟨.int .i64 i, .string (wholeB s), 0⟩] 1) HK3.out)
  clear HD3 HM3 HB3 HK3
  generalize setBlock w3 m (.map #[⟨.int .i64 i, .string (wholeB s), 0⟩] 1) = W4 at HM4 HD4 HB4 HK4 ⊢
  go_wp2_with fail
  go_ret
  exact ⟨rfl, HD4.out, HM4.out, HB4.out, HK4.out⟩
end Go.Proofs.YteoebfiacnploaaGreat.HRec
