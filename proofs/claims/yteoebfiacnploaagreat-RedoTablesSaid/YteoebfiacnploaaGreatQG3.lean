/- Texts of this proof, put together: Shelf, DiskB, MapLaws, RegKit, HookRi. They prove no statement. -/
import Derived.Shelf.Strings.Builder1
import Derived.Shelf.Strings.Builder2
import Derived.Shelf.Strings.BuilderF
import Derived.Shelf.Strings.BuilderK
import Derived.Shelf.Strings.Repeat
import Derived.Test.YteoebfiacnploaaGreatProg
import Derived.Test.YteoebfiacnploaaGreatQG2
import Derived.Maps.RangeRun
import Derived.Maps.Keyed
import Derived.BigRegion
import Derived.Test.YteoebfiacnploaaGreatQG1
namespace Go.Proofs
open Go.Shelf
def Tryz.lays169_ren : Go.Shelf.Ren := ⟨fun | 169 => 49 | n => n, fun | 70 => 92 | 9 => 9 | 0 => 0 | 72 => 95 | 37 => 93 | 127 => 126 | 3 => 3 | 5 => 5 | n => n, fun | n => n⟩
theorem Tryz.lays169 : Go.Proofs.Lays.n169 Tryz.prog Tryz.lays169_ren := {
  mixed := by kernel_rfl
  f169 := Tryz.func49.trans (congrArg some (by kernel_rfl))
  t0 := Tryz.underlying0
  a0 := Tryz.isAgg0
  z0 := Tryz.sizeOf0
  v0 := Tryz.zeroValue0
  t3 := Tryz.underlying3
  a3 := Tryz.isAgg3
  z3 := Tryz.sizeOf3
  v3 := Tryz.zeroValue3
  t9 := Tryz.underlying9
  a9 := Tryz.isAgg9
  z9 := Tryz.sizeOf9
  v9 := Tryz.zeroValue9
  t37 := Tryz.underlying93
  a37 := Tryz.isAgg93
  z37 := Tryz.sizeOf93
  v37 := Tryz.zeroValue93
  t70 := Tryz.underlying92
  a70 := Tryz.isAgg92
  z70 := Tryz.sizeOf92
  v70 := Tryz.zeroValue92
  t72 := Tryz.underlying95
  a72 := Tryz.isAgg95
  z72 := Tryz.sizeOf95
  v72 := Tryz.zeroValue95
  t127 := Tryz.underlying126
  a127 := Tryz.isAgg126
  z127 := Tryz.sizeOf126
  v127 := Tryz.zeroValue126 }
theorem Tryz.Builder_Extra_169 : Builder.Extra Tryz.prog Tryz.lays169_ren := {
  sizeBuilder := by kernel_rfl
  liesBuilder := by kernel_rfl
  t5 := Tryz.underlying5
  a5 := Tryz.isAgg5
  z5 := Tryz.sizeOf5
  v5 := Tryz.zeroValue5
  infoByte := by kernel_rfl
  cellsByte := by kernel_rfl
  sizeByte := by kernel_rfl
  neB5 := by decide }
open Go.RowKit in
open Go.RowKit in
theorem Tryz.Builder_String_empty (B b : Nat) (w : World) (h : Lib.IsBuilder 95 5 B b [] w) (hBw : B ≤ w.heap.size) :
    Calls Tryz.prog 49 #[.pointer (some ⟨b, 0, none⟩)] w fun e w' => e = .returned (.string ⟨#[]⟩) ∧ Below B w w' := Any.Builder_String_empty Tryz.lays169 Tryz.Builder_Extra_169 B b w h hBw
open Go.RowKit in
open Go.RowKit in
open Go.RowKit in
open Go.RowKit in
open Go.RowKit in
open Go.RowKit in
open Go.RowKit in
def Tryz.lays105_ren : Go.Shelf.Ren := ⟨fun | 105 => 93 | 212 => 106 | 99 => 107 | 165 => 108 | 166 => 47 | 170 => 109 | 169 => 49 | 263 => 113 | 264 => 114 | 206 => 115 | 240 => 71 | 241 => 116 | 276 => 94 | 277 => 118 | n => n, fun | 9 => 9 | 3 => 3 | 4 => 4 | 20 => 20 | 0 => 0 | 46 => 111 | 109 => 160 | 5 => 5 | 72 => 95 | 76 => 100 | 51 => 140 | 146 => 168 | 53 => 76 | 148 => 170 | 70 => 92 | 37 => 93 | 75 => 65 | 127 => 126 | 164 => 148 | 80 => 103 | n => n, fun | n => n⟩
theorem Tryz.lays105 : Go.Proofs.Lays.n105 Tryz.prog Tryz.lays105_ren := {
  mixed := by kernel_rfl
  f99 := Tryz.func107.trans (congrArg some (by kernel_rfl))
  f105 := Tryz.func93.trans (congrArg some (by kernel_rfl))
  f165 := Tryz.func108.trans (congrArg some (by kernel_rfl))
  f166 := Tryz.func47.trans (congrArg some (by kernel_rfl))
  f169 := Tryz.func49.trans (congrArg some (by kernel_rfl))
  f170 := Tryz.func109.trans (congrArg some (by kernel_rfl))
  f206 := Tryz.func115.trans (congrArg some (by kernel_rfl))
  f212 := Tryz.func106.trans (congrArg some (by kernel_rfl))
  f240 := Tryz.func71.trans (congrArg some (by kernel_rfl))
  f241 := Tryz.func116.trans (congrArg some (by kernel_rfl))
  f263 := Tryz.func113.trans (congrArg some (by kernel_rfl))
  f264 := Tryz.func114.trans (congrArg some (by kernel_rfl))
  f276 := Tryz.func94.trans (congrArg some (by kernel_rfl))
  f277 := Tryz.func118.trans (congrArg some (by kernel_rfl))
  t0 := Tryz.underlying0
  a0 := Tryz.isAgg0
  z0 := Tryz.sizeOf0
  v0 := Tryz.zeroValue0
  t3 := Tryz.underlying3
  a3 := Tryz.isAgg3
  z3 := Tryz.sizeOf3
  v3 := Tryz.zeroValue3
  t4 := Tryz.underlying4
  a4 := Tryz.isAgg4
  z4 := Tryz.sizeOf4
  v4 := Tryz.zeroValue4
  t5 := Tryz.underlying5
  a5 := Tryz.isAgg5
  z5 := Tryz.sizeOf5
  v5 := Tryz.zeroValue5
  t9 := Tryz.underlying9
  a9 := Tryz.isAgg9
  z9 := Tryz.sizeOf9
  v9 := Tryz.zeroValue9
  t20 := Tryz.underlying20
  a20 := Tryz.isAgg20
  z20 := Tryz.sizeOf20
  v20 := Tryz.zeroValue20
  t37 := Tryz.underlying93
  a37 := Tryz.isAgg93
  z37 := Tryz.sizeOf93
  v37 := Tryz.zeroValue93
  t46 := Tryz.underlying111
  a46 := Tryz.isAgg111
  z46 := Tryz.sizeOf111
  v46 := Tryz.zeroValue111
  t51 := Tryz.underlying140
  a51 := Tryz.isAgg140
  z51 := Tryz.sizeOf140
  v51 := Tryz.zeroValue140
  t53 := Tryz.underlying76
  a53 := Tryz.isAgg76
  z53 := Tryz.sizeOf76
  v53 := Tryz.zeroValue76
  t70 := Tryz.underlying92
  a70 := Tryz.isAgg92
  z70 := Tryz.sizeOf92
  v70 := Tryz.zeroValue92
  t72 := Tryz.underlying95
  a72 := Tryz.isAgg95
  z72 := Tryz.sizeOf95
  v72 := Tryz.zeroValue95
  t75 := Tryz.underlying65
  a75 := Tryz.isAgg65
  z75 := Tryz.sizeOf65
  v75 := Tryz.zeroValue65
  t76 := Tryz.underlying100
  a76 := Tryz.isAgg100
  z76 := Tryz.sizeOf100
  v76 := Tryz.zeroValue100
  t109 := Tryz.underlying160
  a109 := Tryz.isAgg160
  z109 := Tryz.sizeOf160
  v109 := Tryz.zeroValue160
  t127 := Tryz.underlying126
  a127 := Tryz.isAgg126
  z127 := Tryz.sizeOf126
  v127 := Tryz.zeroValue126
  t146 := Tryz.underlying168
  a146 := Tryz.isAgg168
  z146 := Tryz.sizeOf168
  v146 := Tryz.zeroValue168
  t148 := Tryz.underlying170
  a148 := Tryz.isAgg170
  z148 := Tryz.sizeOf170
  v148 := Tryz.zeroValue170
  t164 := Tryz.underlying148
  a164 := Tryz.isAgg148
  z164 := Tryz.sizeOf148
  v164 := Tryz.zeroValue148 }
theorem Tryz.Builder_Extra_105 : Builder.Extra Tryz.prog Tryz.lays105_ren := {
  sizeBuilder := by kernel_rfl
  liesBuilder := by kernel_rfl
  t5 := Tryz.underlying5
  a5 := Tryz.isAgg5
  z5 := Tryz.sizeOf5
  v5 := Tryz.zeroValue5
  infoByte := by kernel_rfl
  cellsByte := by kernel_rfl
  sizeByte := by kernel_rfl
  neB5 := by decide }
open Go.RowKit Go.Lib in
open Go.RowKit Go.Lib in
open Go.RowKit Go.Lib in
open Go.RowKit Go.Lib in
open Go.RowKit Go.Lib in
open Go.RowKit Go.Lib in
open Go.RowKit Go.Lib in
theorem Tryz.strings_Repeat (s : ByteArray) (c : Nat) (w : World) (hc : c ≤ 9223372036854775807) (hlen : s.size * c ≤ 140737488355328) :
    Calls Tryz.prog 93 #[.string s, .int .i64 c] w fun e w' => e = .returned (.string ⟨(Lib.repeatL s.data.toList c).toArray⟩) ∧ Below w.heap.size w w' := Any.strings_Repeat Tryz.lays105 Tryz.Builder_Extra_105 s c w hc hlen
end Go.Proofs
namespace Go.Proofs.YteoebfiacnploaaGreat.HRec
open Go.RowKit Go.Proofs.YteoebfiacnploaaGreatW.PrintWords Go.Proofs.YteoebfiacnploaaGreatW.PrintLast Go.Proofs.YteoebfiacnploaaGreatW.PrintMore
set_option linter.unusedVariables false
set_option linter.unusedSimpArgs false
def zerosB (n : Nat) : ByteArray := ⟨(Lib.repeatL (⟨#[0]⟩ : ByteArray).data.toList n).toArray⟩
theorem zerosB_size (n : Nat) : (zerosB n).size = n := by
  show (Lib.repeatL (⟨#[0]⟩ : ByteArray).data.toList n).toArray.size = n
  rw [List.size_toArray, Lib.repeatL_length]
  simp
def wholeB (s : ByteArray) : ByteArray := s ++ zerosB (64 - s.size)
set_option maxHeartbeats 4000000 in
theorem disk_whole (s : ByteArray) (w : World) (hs : s.size ≤ 64) :
    Calls Tryz.prog 68 #[.string s] w fun e w' => e = .returned (.string (wholeB s)) ∧ Below w.heap.size w w' := by
  have hw : wrap64 (64 - (s.size : Int)) = 64 - (s.size : Int) := by unfold wrap64; omega
  have hzs := zerosB_size (64 - s.size)
  have h1 : (⟨#[0]⟩ : ByteArray).size = 1 := rfl
  have hle : (⟨#[0]⟩ : ByteArray).size * (64 - s.size) ≤ 140737488355328 := by rw [h1]; omega
  have hr := Tryz.strings_Repeat ⟨#[0]⟩ (64 - s.size) w (by omega) hle
  rw [show ((64 - s.size : Nat) : Int) = 64 - (s.size : Int) from by omega] at hr
  clear h1 hle
  unfold wholeB
  unfold zerosB at hzs ⊢
  generalize (⟨(Lib.repeatL (⟨#[0]⟩ : ByteArray).data.toList (64 - s.size)).toArray⟩ : ByteArray) = z at *
  have hb : s.size + z.size ≤ 9223372036854775807 := by omega
  have HR := Aside0.mk hr; clear hr
  go_enter Tryz.func68, Tryz.ntmps68
  go_wp2_with fail
  refine (HR.out).mono ?_
  rintro e w1 ⟨rfl, hb1⟩
  have HB := Aside0.mk hb1; clear hb1
  go_wp2_with fail
  go_ret
  exact ⟨rfl, HB.out⟩
end Go.Proofs.YteoebfiacnploaaGreat.HRec
namespace Go.Proofs.YteoebfiacnploaaGreat.HRec
open Go.RowKit Go.Proofs.YteoebfiacnploaaGreatW.PrintWords Go.Proofs.YteoebfiacnploaaGreatW.PrintLast Go.Proofs.YteoebfiacnploaaGreatW.PrintMore
open Go.ChangeMaps (setBlock)
set_option linter.unusedVariables false
set_option linter.unusedSimpArgs false
theorem run_check (W : World) (e : Bool) (i : Int) : (Instr.checkKey e 10000 3 (.int .i64 i)).run Tryz.prog W = .ok () W := by
  generalize hn : (10000 : Nat) = n
  obtain ⟨m, rfl⟩ : ∃ m, n = m + 1 := ⟨n - 1, by omega⟩
  simp [Instr.checkKey, run_underlying Tryz.underlying3]
theorem run_zero9 (W : World) : (zeroValue 9).run Tryz.prog W = .ok (.string ⟨#[]⟩) W := by
  have h := info9
  simp only [Option.map_eq_some_iff, Prod.mk.injEq] at h
  obtain ⟨a, h1, h2, _⟩ := h
  simp [zeroValue, typeInfo, Sem.run, h1, h2, Result.andThen]
theorem run_look0 {W : World} {m c : Nat} (hm : W.heap[m]? = some (.map #[] c)) (i : Int) (h0 : 0 ≤ i) (h1 : i < 1000000) : (Instr.lookup 75 (.map (some m)) (.int .i64 i) true).run Tryz.prog W = .ok (.tuple #[.string ⟨#[]⟩, .bool false]) W := by
  simp [Instr.lookup, run_underlying Tryz.underlying75, MapKept.run_getObj_map hm, run_check, run_zero9, Result.andThen, Instr.findKey, run_underlying Tryz.underlying3, Instr.findNow]
theorem run_put0 {W : World} {m c : Nat} (hm : W.heap[m]? = some (.map #[] c)) (i : Int) (h0 : 0 ≤ i) (h1 : i < 1000000) (v : Value) : (Instr.mapUpdate 75 (.map (some m)) (.int .i64 i) v).run Tryz.prog W = .ok () (setBlock W m (.map #[⟨.int .i64 i, v, c⟩] (c + 1))) := by
  simp [Instr.mapUpdate, run_underlying Tryz.underlying75, MapKept.run_getObj_map hm, run_check, Result.andThen, Instr.findKey, run_underlying Tryz.underlying3, Instr.findNow, MapKept.run_setObj_map _ hm, setBlock]
theorem run_clear1 {W : World} {m c : Nat} {es : Array MapEntry} (hm : W.heap[m]? = some (.map es c)) : (Builtin.clear_ #[75] 0 #[.map (some m)]).run Tryz.prog W = .ok (.tuple #[]) (setBlock W m (.map #[] c)) := by
  simp [Builtin.clear_, run_underlying Tryz.underlying75, MapKept.run_getObj_map hm, Result.andThen, MapKept.run_setObj_map _ hm, setBlock]
theorem run_range1 {W : World} {m c : Nat} {es : Array MapEntry} (hm : W.heap[m]? = some (.map es c)) : (Instr.range 75 (.map (some m))).run Tryz.prog W = .ok (.pointer (some ⟨W.heap.size, 0, none⟩)) (W.alloc (.mapIter (some m) c #[] c)) := by
  simp [Instr.range, run_underlying Tryz.underlying75, MapKept.run_getObj_map hm, Result.andThen]
theorem run_next1 {W : World} (ty : TypeId) {r m : Nat} {k v : Value} (hr : W.heap[r]? = some (.mapIter (some m) 1 #[] 1)) (hm : W.heap[m]? = some (.map #[⟨k, v, 0⟩] 1)) : ∃ w1 : World, (w1 = W ∨ w1 = W.drew) ∧ (Instr.next (.pointer (some ⟨r, 0, none⟩)) false ty).run Tryz.prog W = .ok (.tuple #[.bool true, k, v]) (setBlock w1 r (.mapIter (some m) 1 #[0] 1)) := by
  rcases run_next_at (P := Tryz.prog) W ty r m 1 1 #[] #[⟨k, v, 0⟩] 1 hr hm (by simp) (Nat.le_refl _) with ⟨h, _⟩ | ⟨e, he, w1, hw, hrun⟩
  · exact absurd h (by simp [leftOf])
  · simp [leftOf] at he
    subst he
    exact ⟨w1, hw, hrun⟩
theorem run_next0 {W : World} (ty : TypeId) {r m : Nat} {k v : Value} (hr : W.heap[r]? = some (.mapIter (some m) 1 #[0] 1)) (hm : W.heap[m]? = some (.map #[⟨k, v, 0⟩] 1)) : (Instr.next (.pointer (some ⟨r, 0, none⟩)) false ty).run Tryz.prog W = .ok (.tuple #[.bool false]) W := by
  rcases run_next_at (P := Tryz.prog) W ty r m 1 1 #[0] #[⟨k, v, 0⟩] 1 hr hm (by simp) (Nat.le_refl _) with ⟨_, h⟩ | ⟨e, he, w1, hw, hrun⟩
  · exact h
  · simp [leftOf] at he
theorem run_entry1 {W : World} {r m : Nat} {k v : Value} (hr : W.heap[r]? = some (.mapIter (some m) 1 #[0] 1)) (hm : W.heap[m]? = some (.map #[⟨k, v, 0⟩] 1)) : (Instr.entry (.pointer (some ⟨r, 0, none⟩))).run Tryz.prog W = .ok (.tuple #[k, v]) W :=
  run_entry_at (P := Tryz.prog) W r m 1 #[] #[⟨k, v, 0⟩] 1 ⟨k, v, 0⟩ hr hm (by simp) (by simp)
end Go.Proofs.YteoebfiacnploaaGreat.HRec
namespace Go.Proofs.YteoebfiacnploaaGreat.HRec
open Go.RowKit Go.Proofs.YteoebfiacnploaaGreatW.PrintWords Go.Proofs.YteoebfiacnploaaGreatW.PrintLast Go.Proofs.YteoebfiacnploaaGreatW.PrintMore
set_option linter.unusedVariables false
set_option linter.unusedSimpArgs false
theorem heap_of_cell {W : World} {p : Addr} {v : Value} (h : W.cell? p = some v) : p.block < W.heap.size := by
  by_cases hb : p.block < W.heap.size
  · exact hb
  · exfalso
    have hn : W.heap[p.block]? = none := Array.getElem?_eq_none (by omega)
    simp [World.cell?, hn] at h
theorem below_cell {W w' : World} {p : Addr} {v : Value} (hs : Below W.heap.size W w') (h : W.cell? p = some v) : w'.cell? p = some v := (Below.cell hs (heap_of_cell h)).trans h
theorem at_int {w : World} {A : Option Addr} {n : Nat} {xs : List Int} (h : (Kd.int .i64).C w A n xs) (i : Int) (h0 : 0 ≤ i) (h1 : i < n) : ∃ ad, A = some ad ∧ w.cell? (ad.add i.toNat) = some (.int .i64 (rdOf 0 xs i)) := by
  obtain ⟨ad, c, e, _, hK, hc0⟩ := Kd.C_get h 0 i h0 h1
  have hc : ∀ j u, c[j]? = some u → w.cell? (ad.add (i.toNat * 1 + j)) = some u := hc0
  have hK : c = [.int .i64 (rdOf 0 xs i)] := hK
  subst hK
  have := hc 0 _ rfl
  rw [Nat.mul_one] at this
  exact ⟨ad, e, this⟩
end Go.Proofs.YteoebfiacnploaaGreat.HRec
namespace Go.Proofs.YteoebfiacnploaaGreat.HRec
open Go.RowKit Go.Proofs.YteoebfiacnploaaGreatW.PrintWords Go.Proofs.YteoebfiacnploaaGreatW.PrintLast Go.Proofs.YteoebfiacnploaaGreatW.PrintMore
set_option linter.unusedVariables false
set_option linter.unusedSimpArgs false
/-- All blocks but two are as they were. -/
def KeepX (g h : Nat) (w W : World) : Prop := w.heap.size ≤ W.heap.size ∧ ∀ i, i < w.heap.size → i ≠ g → i ≠ h → W.heap[i]? = w.heap[i]?
theorem KeepX.refl (g h : Nat) (w : World) : KeepX g h w w := ⟨Nat.le_refl _, fun _ _ _ _ => rfl⟩
theorem KeepX.call {g h : Nat} {w W W1 : World} (k : KeepX g h w W) (q : KeepBut W W1 g none) : KeepX g h w W1 := ⟨Nat.le_trans k.1 q.1, fun i hi hg hh => (q.2 i (Nat.lt_of_lt_of_le hi k.1) hg (by simp)).trans (k.2 i hi hg hh)⟩
theorem KeepX.set {g h : Nat} {w W : World} (k : KeepX g h w W) (j : Nat) (u : Value) : KeepX g h w (W.setCell ⟨h, j, none⟩ u) := ⟨by simpa [World.setCell] using k.1, fun i hi hg hh => (Below.heap_setCell W ⟨h, j, none⟩ u i hh).trans (k.2 i hi hg hh)⟩
set_option maxHeartbeats 4000000 in
set_option maxRecDepth 100000 in
theorem rec_readChange.calls2 (kf : Nat) (g h : Nat) (s : ByteArray) (p e act : Int) (x0 x1 x2 x3 x4 : Int) (k o n : ByteArray) (x8 : Int) (vI vT : Value) (x11 x12 : Int) (pg : Int) (ky od nw : ByteArray) (s' : ByteArray) (p' e' : Int) (w0 w : World) (hI : IsS124 w0 w g s p e) (hR : IsRec w h x0 x1 x2 x3 x4 k o n x8 vI vT x11 x12) (hh : w0.heap.size ≤ h) (hB : Below w0.heap.size w0 w) (hf : rec_readChange.f kf s p e act o n = some (pg, ky, od, nw, s', p', e')) :
    Calls Tryz.prog 76 #[.pointer (some ⟨g, 0, none⟩), .pointer (some ⟨h, 0, none⟩), .int .i64 act] w fun x w' => x = .returned (.tuple #[]) ∧ IsS124 w0 w' g s' p' e' ∧ IsRec w' h x0 x1 x2 pg x4 ky od nw x8 vI vT x11 x12 ∧ Below w0.heap.size w0 w' ∧ KeepX g h w w' := by
  unfold rec_readChange.f at hf
  replace hf := Option.bind_eq_some_iff.mp hf
  obtain ⟨⟨a, a1, a2, a3⟩, ha, hf⟩ := hf
  replace hf := Option.bind_eq_some_iff.mp hf
  obtain ⟨⟨b, b1, b2, b3⟩, hb, hf⟩ := hf
  replace hf := Option.bind_eq_some_iff.mp hf
  obtain ⟨⟨c, c1, c2, c3⟩, hc, hf⟩ := hf
  replace hf := Option.bind_eq_some_iff.mp hf
  obtain ⟨⟨d, d1, d2, d3⟩, hd, hf⟩ := hf
  simp only [Option.some.injEq, Prod.mk.injEq] at hf
  obtain ⟨rfl, rfl, rfl, rfl, rfl, rfl, rfl⟩ := hf
  have I0 := Aside0.mk hI; have R0 := Aside0.mk hR; have B0 := Aside0.mk hB; have K0 := Aside0.mk (KeepX.refl g h w); have HH := Aside0.mk hh
  have HNE := Aside0.mk (show h ≠ g from fun e => IsS124.ne_blk hI hR (by decide) e.symm)
  have A := Aside0.mk ha; have BB := Aside0.mk hb; clear hI hR hh hB ha hb
  by_cases h3 : act = 3
  · have t3 : (act != 3) = false := bne_eq_false_iff_eq.mpr (by omega)
    have u3 : (act == 3) = true := beq_iff_eq.mpr (by omega)
    have t4 : (act != 4) = true := bne_iff_ne.mpr (by omega)
    have u4 : (act == 4) = false := beq_eq_false_iff_ne.mpr (by omega)
    rw [textIf, t3, if_neg (by simp)] at hc
    simp only [Option.some.injEq, Prod.mk.injEq] at hc
    obtain ⟨rfl, rfl, rfl, rfl⟩ := hc
    rw [textIf, t4, if_pos rfl] at hd
    have D := Aside0.mk hd; clear hd
    go_enter Tryz.func76, Tryz.ntmps76
    go_wp2_with fail
    refine (pack_Reader_Num.calls g s p e 2 a a1 a2 a3 w0 _ I0.out B0.out A.out).mono ?_
    rintro x w1 ⟨rfl, q1, q2, q3⟩
    have I1 := Aside0.mk q1; have B1 := Aside0.mk q2; have R1 := Aside0.mk (IsRec.keep R0.out q3 HNE.out); have K1 := Aside0.mk (KeepX.call K0.out q3); have cf1 := IsRec.cell_3 R1.out; have ff1 := IsRec.free R1.out 3; clear q1 q2 q3
    go_wp2_with fail
    refine (pack_Reader_Text.calls kf g a1 a2 a3 16 b b1 b2 b3 w0 _ (IsS124.far I1.out (fun e => HNE.out e.symm) _) (below_set B1.out HH.out) BB.out).mono ?_
    rintro x w2 ⟨rfl, q1, q2, q3⟩
    have I2 := Aside0.mk q1; have B2 := Aside0.mk q2; have R2 := Aside0.mk (IsRec.keep (IsRec.set_3 R1.out a) q3 HNE.out); have K2 := Aside0.mk (KeepX.call (KeepX.set K1.out 3 _) q3); have cf2 := IsRec.cell_5 R2.out; have ff2 := IsRec.free R2.out 5; clear q1 q2 q3
    go_wp2_with fail
    refine (pack_Reader_Text.calls kf g b1 b2 b3 32 d d1 d2 d3 w0 _ (IsS124.far I2.out (fun e => HNE.out e.symm) _) (below_set B2.out HH.out) D.out).mono ?_
    rintro x w4 ⟨rfl, q1, q2, q3⟩
    have I4 := Aside0.mk q1; have B4 := Aside0.mk q2; have R4 := Aside0.mk (IsRec.keep (IsRec.set_5 R2.out b) q3 HNE.out); have K4 := Aside0.mk (KeepX.call (KeepX.set K2.out 5 _) q3); have cf4 := IsRec.cell_7 R4.out; have ff4 := IsRec.free R4.out 7; clear q1 q2 q3
    go_wp2_with fail
    first | go_end0 | ((try simp only [Exit.inBlock, Exit.then]); refine bodyPost_ret (results_none rfl _ _ _) rfl ?_)
    exact ⟨rfl, IsS124.far I4.out (fun e => HNE.out e.symm) _, (IsRec.set_7 R4.out d), below_set B4.out HH.out, (KeepX.set K4.out 7 _)⟩
  · by_cases h4 : act = 4
    · have t3 : (act != 3) = true := bne_iff_ne.mpr (by omega)
      have u3 : (act == 3) = false := beq_eq_false_iff_ne.mpr (by omega)
      have t4 : (act != 4) = false := bne_eq_false_iff_eq.mpr (by omega)
      have u4 : (act == 4) = true := beq_iff_eq.mpr (by omega)
      rw [textIf, t3, if_pos rfl] at hc
      have C := Aside0.mk hc; clear hc
      rw [textIf, t4, if_neg (by simp)] at hd
      simp only [Option.some.injEq, Prod.mk.injEq] at hd
      obtain ⟨rfl, rfl, rfl, rfl⟩ := hd
      go_enter Tryz.func76, Tryz.ntmps76
      go_wp2_with fail
      refine (pack_Reader_Num.calls g s p e 2 a a1 a2 a3 w0 _ I0.out B0.out A.out).mono ?_
      rintro x w1 ⟨rfl, q1, q2, q3⟩
      have I1 := Aside0.mk q1; have B1 := Aside0.mk q2; have R1 := Aside0.mk (IsRec.keep R0.out q3 HNE.out); have K1 := Aside0.mk (KeepX.call K0.out q3); have cf1 := IsRec.cell_3 R1.out; have ff1 := IsRec.free R1.out 3; clear q1 q2 q3
      go_wp2_with fail
      refine (pack_Reader_Text.calls kf g a1 a2 a3 16 b b1 b2 b3 w0 _ (IsS124.far I1.out (fun e => HNE.out e.symm) _) (below_set B1.out HH.out) BB.out).mono ?_
      rintro x w2 ⟨rfl, q1, q2, q3⟩
      have I2 := Aside0.mk q1; have B2 := Aside0.mk q2; have R2 := Aside0.mk (IsRec.keep (IsRec.set_3 R1.out a) q3 HNE.out); have K2 := Aside0.mk (KeepX.call (KeepX.set K1.out 3 _) q3); have cf2 := IsRec.cell_5 R2.out; have ff2 := IsRec.free R2.out 5; clear q1 q2 q3
      go_wp2_with fail
      refine (pack_Reader_Text.calls kf g b1 b2 b3 32 c c1 c2 c3 w0 _ (IsS124.far I2.out (fun e => HNE.out e.symm) _) (below_set B2.out HH.out) C.out).mono ?_
      rintro x w3 ⟨rfl, q1, q2, q3⟩
      have I3 := Aside0.mk q1; have B3 := Aside0.mk q2; have R3 := Aside0.mk (IsRec.keep (IsRec.set_5 R2.out b) q3 HNE.out); have K3 := Aside0.mk (KeepX.call (KeepX.set K2.out 5 _) q3); have cf3 := IsRec.cell_6 R3.out; have ff3 := IsRec.free R3.out 6; clear q1 q2 q3
      go_wp2_with fail
      first | go_end0 | ((try simp only [Exit.inBlock, Exit.then]); refine bodyPost_ret (results_none rfl _ _ _) rfl ?_)
      exact ⟨rfl, IsS124.far I3.out (fun e => HNE.out e.symm) _, (IsRec.set_6 R3.out c), below_set B3.out HH.out, (KeepX.set K3.out 6 _)⟩
    · have t3 : (act != 3) = true := bne_iff_ne.mpr (by omega)
      have u3 : (act == 3) = false := beq_eq_false_iff_ne.mpr (by omega)
      have t4 : (act != 4) = true := bne_iff_ne.mpr (by omega)
      have u4 : (act == 4) = false := beq_eq_false_iff_ne.mpr (by omega)
      rw [textIf, t3, if_pos rfl] at hc
      have C := Aside0.mk hc; clear hc
      rw [textIf, t4, if_pos rfl] at hd
      have D := Aside0.mk hd; clear hd
      go_enter Tryz.func76, Tryz.ntmps76
      go_wp2_with fail
      refine (pack_Reader_Num.calls g s p e 2 a a1 a2 a3 w0 _ I0.out B0.out A.out).mono ?_
      rintro x w1 ⟨rfl, q1, q2, q3⟩
      have I1 := Aside0.mk q1; have B1 := Aside0.mk q2; have R1 := Aside0.mk (IsRec.keep R0.out q3 HNE.out); have K1 := Aside0.mk (KeepX.call K0.out q3); have cf1 := IsRec.cell_3 R1.out; have ff1 := IsRec.free R1.out 3; clear q1 q2 q3
      go_wp2_with fail
      refine (pack_Reader_Text.calls kf g a1 a2 a3 16 b b1 b2 b3 w0 _ (IsS124.far I1.out (fun e => HNE.out e.symm) _) (below_set B1.out HH.out) BB.out).mono ?_
      rintro x w2 ⟨rfl, q1, q2, q3⟩
      have I2 := Aside0.mk q1; have B2 := Aside0.mk q2; have R2 := Aside0.mk (IsRec.keep (IsRec.set_3 R1.out a) q3 HNE.out); have K2 := Aside0.mk (KeepX.call (KeepX.set K1.out 3 _) q3); have cf2 := IsRec.cell_5 R2.out; have ff2 := IsRec.free R2.out 5; clear q1 q2 q3
      go_wp2_with fail
      refine (pack_Reader_Text.calls kf g b1 b2 b3 32 c c1 c2 c3 w0 _ (IsS124.far I2.out (fun e => HNE.out e.symm) _) (below_set B2.out HH.out) C.out).mono ?_
      rintro x w3 ⟨rfl, q1, q2, q3⟩
      have I3 := Aside0.mk q1; have B3 := Aside0.mk q2; have R3 := Aside0.mk (IsRec.keep (IsRec.set_5 R2.out b) q3 HNE.out); have K3 := Aside0.mk (KeepX.call (KeepX.set K2.out 5 _) q3); have cf3 := IsRec.cell_6 R3.out; have ff3 := IsRec.free R3.out 6; clear q1 q2 q3
      go_wp2_with fail
      refine (pack_Reader_Text.calls kf g c1 c2 c3 32 d d1 d2 d3 w0 _ (IsS124.far I3.out (fun e => HNE.out e.symm) _) (below_set B3.out HH.out) D.out).mono ?_
      rintro x w4 ⟨rfl, q1, q2, q3⟩
      have I4 := Aside0.mk q1; have B4 := Aside0.mk q2; have R4 := Aside0.mk (IsRec.keep (IsRec.set_6 R3.out c) q3 HNE.out); have K4 := Aside0.mk (KeepX.call (KeepX.set K3.out 6 _) q3); have cf4 := IsRec.cell_7 R4.out; have ff4 := IsRec.free R4.out 7; clear q1 q2 q3
      go_wp2_with fail
      first | go_end0 | ((try simp only [Exit.inBlock, Exit.then]); refine bodyPost_ret (results_none rfl _ _ _) rfl ?_)
      exact ⟨rfl, IsS124.far I4.out (fun e => HNE.out e.symm) _, (IsRec.set_7 R4.out d), below_set B4.out HH.out, (KeepX.set K4.out 7 _)⟩
end Go.Proofs.YteoebfiacnploaaGreat.HRec
