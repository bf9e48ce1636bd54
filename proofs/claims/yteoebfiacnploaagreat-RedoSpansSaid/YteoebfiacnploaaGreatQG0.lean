/- Texts of this proof, put together: DiskA, Shelf, DiskB, MapLaws, FpackReaderfail, HookRa. They prove no statement. -/
import Derived.Test.YteoebfiacnploaaGreatQFtypes
import Derived.BigRegion
import Derived.Maps.Own
import Derived.Shelf.Strings.Builder1
import Derived.Shelf.Strings.Builder2
import Derived.Shelf.Strings.BuilderF
import Derived.Shelf.Strings.BuilderK
import Derived.Shelf.Strings.Repeat
import Derived.Test.YteoebfiacnploaaGreatProg
import Derived.Maps.RangeRun
import Derived.Maps.Keyed
namespace Go.Proofs.YteoebfiacnploaaGreat.HRec
open Go.RowKit Go.Proofs.YteoebfiacnploaaGreatW.PrintWords Go.Proofs.YteoebfiacnploaaGreatW.PrintLast Go.Proofs.YteoebfiacnploaaGreatW.PrintMore
set_option linter.unusedVariables false
set_option linter.unusedSimpArgs false
theorem info9 : (Tryz.prog.info? 9).map (fun i => (i.zero, i.size, i.bytes)) = some (some (.string ⟨#[]⟩), 1, 16) := by kernel_rfl
/-- A disk at block d whose power is on and at which no act fails: its row of sectors, the map of what waits, how many acts there were. -/
def IsDisk (W : World) (d m : Nat) (A : Option Addr) (n c : Nat) (acts : Int) : Prop :=
  W.heap[d]? = some (.cells #[.slice A n c, .map (some m), .bool true, .int .i64 (-1), .int .u64 0, .int .i64 acts, .int .i64 0] 78 (0, 0))
section
variable {W W1 : World} {d m : Nat} {A : Option Addr} {n c : Nat} {acts : Int}
theorem IsDisk.below (h : IsDisk W d m A n c acts) (hb : Below W.heap.size W W1) : IsDisk W1 d m A n c acts := blk_below h hb
theorem IsDisk.at_0 (h : IsDisk W d m A n c acts) : W.cell? ⟨d, 0, none⟩ = some (.slice A n c) := (blk_cell h 0).trans rfl
theorem IsDisk.at_1 (h : IsDisk W d m A n c acts) : W.cell? ⟨d, 1, none⟩ = some (.map (some m)) := (blk_cell h 1).trans rfl
theorem IsDisk.at_2 (h : IsDisk W d m A n c acts) : W.cell? ⟨d, 2, none⟩ = some (.bool true) := (blk_cell h 2).trans rfl
theorem IsDisk.at_3 (h : IsDisk W d m A n c acts) : W.cell? ⟨d, 3, none⟩ = some (.int .i64 (-1)) := (blk_cell h 3).trans rfl
theorem IsDisk.at_5 (h : IsDisk W d m A n c acts) : W.cell? ⟨d, 5, none⟩ = some (.int .i64 acts) := (blk_cell h 5).trans rfl
theorem IsDisk.free (h : IsDisk W d m A n c acts) (i : Nat) : W.frozen? ⟨d, i, none⟩ = false := blk_frozen h i
theorem IsDisk.set_5 (h : IsDisk W d m A n c acts) (x : Int) : IsDisk (W.setCell ⟨d, 5, none⟩ (.int .i64 x)) d m A n c x := by unfold IsDisk; simpa using blk_set h 5 (.int .i64 x)
end
set_option maxHeartbeats 4000000 in
set_option maxRecDepth 100000 in
theorem disk_New (n : Int) (w : World) (h1 : 1 ≤ n) (h2 : n ≤ 8192) :
    Calls Tryz.prog 18 #[.int .i64 n] w fun e w' => ∃ d m A c, e = .returned (.tuple #[.pointer (some ⟨d, 0, none⟩), .int .i64 0]) ∧ IsDisk w' d m A n.toNat c 0 ∧ w'.heap[m]? = some (.map #[] 0) ∧ w.heap.size ≤ m ∧ m < d ∧
      Kd.R Kd.string 9 w' w.heap.size (fun k => k < m) (.slice A n.toNat c) (List.replicate n.toNat ⟨#[]⟩) ∧ Below w.heap.size w w' := by
  have b0 : decide (n < 1) = false := decide_eq_false (by omega)
  have b1 : decide (8192 < n) = false := decide_eq_false (by omega)
  have hmm := @run_makeMap Tryz.prog
  go_enter Tryz.func18, Tryz.ntmps18
  go_wp2_with ((with_reducible refine gate_dst (N := 11) rfl ?_); refine Kd.R_make Kd.string w.heap.size 9 rfl (N := 11) rfl 74 _ _ rfl n rfl rfl Tryz.underlying74 (.string ⟨#[]⟩) 16 info9 rfl (by decide) (by decide) ⟨#[]⟩ (ok := fun _ => True) (okp := fun _ => True) rfl (fun _ hk => hk) trivial (by omega) (by omega) (Below.refl _ _) (Nat.le_refl _) ?_; intro v1 w1 ho hb hg_ hnew_; have HO := Aside0.mk ho; have HB := Aside0.mk hb; clear ho hb hg_ hnew_; obtain ⟨A1, c1, rfl⟩ := Kd.R_slice HO.out)
  have hl : (List.replicate n.toNat (⟨#[]⟩ : ByteArray)).length = n.toNat := List.length_replicate
  have ho := HO.out
  rw [hl] at ho
  have hr := Kd.R_bound ho
  have hm : ∀ o1 o2 : Obj, ∀ k, k < w1.heap.size → ((w1.alloc o1).alloc o2).heap[k]? = w1.heap[k]? := fun o1 o2 k hk => (Below.heap_alloc _ _ k (by simp; omega)).trans (Below.heap_alloc _ _ k hk)
  go_ret2
  refine ⟨w1.heap.size + 1, w1.heap.size, A1, c1, rfl, ?_, ?_, HB.out.size, by omega, ?_, ?_⟩
  · have := blk_new (w1.alloc (.map #[] 0)) (.cells #[.slice A1 n.toNat c1, .map (some w1.heap.size), .bool true, .int .i64 (-1), .int .u64 0, .int .i64 0, .int .i64 0] 78)
    rw [show (w1.alloc (.map #[] 0)).heap.size = w1.heap.size + 1 from by simp] at this
    exact this
  · exact (Below.heap_alloc _ _ _ (by simp)).trans (heap_alloc_new w1 _)
  · exact Kd.R_move (Kd.R_mono hr (fun k hk => hk.2.2.1)) (fun k hk => hm _ _ k hk)
  · exact below_alloc (below_alloc HB.out _) _
set_option maxHeartbeats 4000000 in
theorem disk_none (d m : Nat) (A : Option Addr) (n c : Nat) (acts : Int) (w : World) (h : IsDisk w d m A n c acts) (hn : 0 < n) :
    Calls Tryz.prog 66 #[.pointer (some ⟨d, 0, none⟩)] w fun e w' => e = .returned (.bool false) ∧ w' = w := by
  have c0 := IsDisk.at_0 h
  have b0 : ((n : Int) == 0) = false := beq_eq_false_iff_ne.mpr (by omega)
  go_enter Tryz.func66, Tryz.ntmps66
  go_wp2_with fail
  go_ret
  exact ⟨by first | rfl | simp [b0], rfl⟩
set_option maxHeartbeats 4000000 in
theorem disk_Size (d m : Nat) (A : Option Addr) (n c : Nat) (acts : Int) (w : World) (h : IsDisk w d m A n c acts) (hn : 0 < n) :
    Calls Tryz.prog 43 #[.pointer (some ⟨d, 0, none⟩)] w fun e w' => e = .returned (.int .i64 n) ∧ w' = w := by
  have c0 := IsDisk.at_0 h; have H := Aside0.mk h
  go_enter Tryz.func43, Tryz.ntmps43
  go_wp2_with fail
  refine (disk_none d m A n c acts w H.out hn).mono ?_
  rintro e w1 ⟨rfl, rfl⟩
  go_wp2_with fail
  go_ret
  exact ⟨rfl, rfl⟩
set_option maxHeartbeats 4000000 in
theorem disk_check (d m : Nat) (A : Option Addr) (n c : Nat) (acts i : Int) (w : World) (h : IsDisk w d m A n c acts) (h0 : 0 ≤ i) (h1 : i < n) :
    Calls Tryz.prog 67 #[.pointer (some ⟨d, 0, none⟩), .int .i64 i] w fun e w' => e = .returned (.int .i64 0) ∧ w' = w := by
  have c0 := IsDisk.at_0 h; have c2 := IsDisk.at_2 h; have H := Aside0.mk h
  have b0 : decide (i < 0) = false := decide_eq_false (by omega)
  have b1 : decide ((n : Int) ≤ i) = false := decide_eq_false (by omega)
  go_enter Tryz.func67, Tryz.ntmps67
  go_wp2_with fail
  refine (disk_none d m A n c acts w H.out (by omega)).mono ?_
  rintro e w1 ⟨rfl, rfl⟩
  go_wp2_with fail
  go_ret
  exact ⟨rfl, rfl⟩
set_option maxHeartbeats 4000000 in
theorem disk_act (d m : Nat) (A : Option Addr) (n c : Nat) (acts : Int) (w0 w : World) (h : IsDisk w d m A n c acts) (hB : Below w0.heap.size w0 w) (hd : w0.heap.size ≤ d) (h0 : 0 ≤ acts) (h1 : acts ≤ 1000000) :
    Calls Tryz.prog 73 #[.pointer (some ⟨d, 0, none⟩)] w fun e w' => e = .returned (.int .i64 0) ∧ IsDisk w' d m A n c (acts + 1) ∧ Below w0.heap.size w0 w' ∧ KeepBut w w' d none := by
  have c3 := IsDisk.at_3 h; have c5 := IsDisk.at_5 h; have f5 := IsDisk.free h 5; have H := Aside0.mk h; have HB := Aside0.mk hB
  have hw : wrap64 (acts + 1) = acts + 1 := by unfold wrap64; omega
  clear hB
  go_enter Tryz.func73, Tryz.ntmps73
  go_wp2_with fail
  go_ret
  exact ⟨rfl, by first | exact IsDisk.set_5 H.out _ | (rw [hw]; exact IsDisk.set_5 H.out _), below_set HB.out hd, KeepBut.set_ (KeepBut.refl w d none) _ _⟩
end Go.Proofs.YteoebfiacnploaaGreat.HRec
namespace Go.Proofs
open Go.Shelf
def Tryz.lays169_ren : Go.Shelf.Ren := ⟨fun | 169 => 49 | n => n, fun | 70 => 92 | 9 => 9 | 0 => 0 | 72 => 95 | 37 => 93 | 127 => 126 | 3 => 3 | 5 => 5 | n => n, fun | n => n⟩
theorem Tryz.lays169 : Go.Proofs.Lays.n169 Tryz.prog Tryz.lays169_ren := {
  mixed := by kernel_rfl
  f169 := Tryz.func49.trans (congrArg some (by kernel_rfl))
  t0 := Tryz.underlying0
  a0 := Tryz.isAgg0
  z0 := Tryz.sizeOf0
  v0 := Tryz.zeroValue0
  t3 := Tryz.underlying3
  a3 := Tryz.isAgg3
  z3 := Tryz.sizeOf3
  v3 := Tryz.zeroValue3
  t9 := Tryz.underlying9
  a9 := Tryz.isAgg9
  z9 := Tryz.sizeOf9
  v9 := Tryz.zeroValue9
  t37 := Tryz.underlying93
  a37 := Tryz.isAgg93
  z37 := Tryz.sizeOf93
  v37 := Tryz.zeroValue93
  t70 := Tryz.underlying92
  a70 := Tryz.isAgg92
  z70 := Tryz.sizeOf92
  v70 := Tryz.zeroValue92
  t72 := Tryz.underlying95
  a72 := Tryz.isAgg95
  z72 := Tryz.sizeOf95
  v72 := Tryz.zeroValue95
  t127 := Tryz.underlying126
  a127 := Tryz.isAgg126
  z127 := Tryz.sizeOf126
  v127 := Tryz.zeroValue126 }
theorem Tryz.Builder_Extra_169 : Builder.Extra Tryz.prog Tryz.lays169_ren := {
  sizeBuilder := by kernel_rfl
  liesBuilder := by kernel_rfl
  t5 := Tryz.underlying5
  a5 := Tryz.isAgg5
  z5 := Tryz.sizeOf5
  v5 := Tryz.zeroValue5
  infoByte := by kernel_rfl
  cellsByte := by kernel_rfl
  sizeByte := by kernel_rfl
  neB5 := by decide }
open Go.RowKit in
open Go.RowKit in
theorem Tryz.Builder_String_empty (B b : Nat) (w : World) (h : Lib.IsBuilder 95 5 B b [] w) (hBw : B ≤ w.heap.size) :
    Calls Tryz.prog 49 #[.pointer (some ⟨b, 0, none⟩)] w fun e w' => e = .returned (.string ⟨#[]⟩) ∧ Below B w w' := Any.Builder_String_empty Tryz.lays169 Tryz.Builder_Extra_169 B b w h hBw
open Go.RowKit in
open Go.RowKit in
open Go.RowKit in
open Go.RowKit in
open Go.RowKit in
open Go.RowKit in
open Go.RowKit in
def Tryz.lays105_ren : Go.Shelf.Ren := ⟨fun | 105 => 93 | 212 => 106 | 99 => 107 | 165 => 108 | 166 => 47 | 170 => 109 | 169 => 49 | 263 => 113 | 264 => 114 | 206 => 115 | 240 => 71 | 241 => 116 | 276 => 94 | 277 => 118 | n => n, fun | 9 => 9 | 3 => 3 | 4 => 4 | 20 => 20 | 0 => 0 | 46 => 111 | 109 => 160 | 5 => 5 | 72 => 95 | 76 => 100 | 51 => 140 | 146 => 168 | 53 => 76 | 148 => 170 | 70 => 92 | 37 => 93 | 75 => 65 | 127 => 126 | 164 => 148 | 80 => 103 | n => n, fun | n => n⟩
theorem Tryz.lays105 : Go.Proofs.Lays.n105 Tryz.prog Tryz.lays105_ren := {
  mixed := by kernel_rfl
  f99 := Tryz.func107.trans (congrArg some (by kernel_rfl))
  f105 := Tryz.func93.trans (congrArg some (by kernel_rfl))
  f165 := Tryz.func108.trans (congrArg some (by kernel_rfl))
  f166 := Tryz.func47.trans (congrArg some (by kernel_rfl))
  f169 := Tryz.func49.trans (congrArg some (by kernel_rfl))
  f170 := Tryz.func109.trans (congrArg some (by kernel_rfl))
  f206 := Tryz.func115.trans (congrArg some (by kernel_rfl))
  f212 := Tryz.func106.trans (congrArg some (by kernel_rfl))
  f240 := Tryz.func71.trans (congrArg some (by kernel_rfl))
  f241 := Tryz.func116.trans (congrArg some (by kernel_rfl))
  f263 := Tryz.func113.trans (congrArg some (by kernel_rfl))
  f264 := Tryz.func114.trans (congrArg some (by kernel_rfl))
  f276 := Tryz.func94.trans (congrArg some (by kernel_rfl))
  f277 := Tryz.func118.trans (congrArg some (by kernel_rfl))
  t0 := Tryz.underlying0
  a0 := Tryz.isAgg0
  z0 := Tryz.sizeOf0
  v0 := Tryz.zeroValue0
  t3 := Tryz.underlying3
  a3 := Tryz.isAgg3
  z3 := Tryz.sizeOf3
  v3 := Tryz.zeroValue3
  t4 := Tryz.underlying4
  a4 := Tryz.isAgg4
  z4 := Tryz.sizeOf4
  v4 := Tryz.zeroValue4
  t5 := Tryz.underlying5
  a5 := Tryz.isAgg5
  z5 := Tryz.sizeOf5
  v5 := Tryz.zeroValue5
  t9 := Tryz.underlying9
  a9 := Tryz.isAgg9
  z9 := Tryz.sizeOf9
  v9 := Tryz.zeroValue9
  t20 := Tryz.underlying20
  a20 := Tryz.isAgg20
  z20 := Tryz.sizeOf20
  v20 := Tryz.zeroValue20
  t37 := Tryz.underlying93
  a37 := Tryz.isAgg93
  z37 := Tryz.sizeOf93
  v37 := Tryz.zeroValue93
  t46 := Tryz.underlying111
  a46 := Tryz.isAgg111
  z46 := Tryz.sizeOf111
  v46 := Tryz.zeroValue111
  t51 := Tryz.underlying140
  a51 := Tryz.isAgg140
  z51 := Tryz.sizeOf140
  v51 := Tryz.zeroValue140
  t53 := Tryz.underlying76
  a53 := Tryz.isAgg76
  z53 := Tryz.sizeOf76
  v53 := Tryz.zeroValue76
  t70 := Tryz.underlying92
  a70 := Tryz.isAgg92
  z70 := Tryz.sizeOf92
  v70 := Tryz.zeroValue92
  t72 := Tryz.underlying95
  a72 := Tryz.isAgg95
  z72 := Tryz.sizeOf95
  v72 := Tryz.zeroValue95
  t75 := Tryz.underlying65
  a75 := Tryz.isAgg65
  z75 := Tryz.sizeOf65
  v75 := Tryz.zeroValue65
  t76 := Tryz.underlying100
  a76 := Tryz.isAgg100
  z76 := Tryz.sizeOf100
  v76 := Tryz.zeroValue100
  t109 := Tryz.underlying160
  a109 := Tryz.isAgg160
  z109 := Tryz.sizeOf160
  v109 := Tryz.zeroValue160
  t127 := Tryz.underlying126
  a127 := Tryz.isAgg126
  z127 := Tryz.sizeOf126
  v127 := Tryz.zeroValue126
  t146 := Tryz.underlying168
  a146 := Tryz.isAgg168
  z146 := Tryz.sizeOf168
  v146 := Tryz.zeroValue168
  t148 := Tryz.underlying170
  a148 := Tryz.isAgg170
  z148 := Tryz.sizeOf170
  v148 := Tryz.zeroValue170
  t164 := Tryz.underlying148
  a164 := Tryz.isAgg148
  z164 := Tryz.sizeOf148
  v164 := Tryz.zeroValue148 }
theorem Tryz.Builder_Extra_105 : Builder.Extra Tryz.prog Tryz.lays105_ren := {
  sizeBuilder := by kernel_rfl
  liesBuilder := by kernel_rfl
  t5 := Tryz.underlying5
  a5 := Tryz.isAgg5
  z5 := Tryz.sizeOf5
  v5 := Tryz.zeroValue5
  infoByte := by kernel_rfl
  cellsByte := by kernel_rfl
  sizeByte := by kernel_rfl
  neB5 := by decide }
open Go.RowKit Go.Lib in
open Go.RowKit Go.Lib in
open Go.RowKit Go.Lib in
open Go.RowKit Go.Lib in
open Go.RowKit Go.Lib in
open Go.RowKit Go.Lib in
open Go.RowKit Go.Lib in
theorem Tryz.strings_Repeat (s : ByteArray) (c : Nat) (w : World) (hc : c ≤ 9223372036854775807) (hlen : s.size * c ≤ 140737488355328) :
    Calls Tryz.prog 93 #[.string s, .int .i64 c] w fun e w' => e = .returned (.string ⟨(Lib.repeatL s.data.toList c).toArray⟩) ∧ Below w.heap.size w w' := Any.strings_Repeat Tryz.lays105 Tryz.Builder_Extra_105 s c w hc hlen
end Go.Proofs
namespace Go.Proofs.YteoebfiacnploaaGreat.HRec
open Go.RowKit Go.Proofs.YteoebfiacnploaaGreatW.PrintWords Go.Proofs.YteoebfiacnploaaGreatW.PrintLast Go.Proofs.YteoebfiacnploaaGreatW.PrintMore
set_option linter.unusedVariables false
set_option linter.unusedSimpArgs false
def zerosB (n : Nat) : ByteArray := ⟨(Lib.repeatL (⟨#[0]⟩ : ByteArray).data.toList n).toArray⟩
theorem zerosB_size (n : Nat) : (zerosB n).size = n := by
  show (Lib.repeatL (⟨#[0]⟩ : ByteArray).data.toList n).toArray.size = n
  rw [List.size_toArray, Lib.repeatL_length]
  simp
def wholeB (s : ByteArray) : ByteArray := s ++ zerosB (64 - s.size)
set_option maxHeartbeats 4000000 in
theorem disk_whole (s : ByteArray) (w : World) (hs : s.size ≤ 64) :
    Calls Tryz.prog 68 #[.string s] w fun e w' => e = .returned (.string (wholeB s)) ∧ Below w.heap.size w w' := by
  have hw : wrap64 (64 - (s.size : Int)) = 64 - (s.size : Int) := by unfold wrap64; omega
  have hzs := zerosB_size (64 - s.size)
  have h1 : (⟨#[0]⟩ : ByteArray).size = 1 := rfl
  have hle : (⟨#[0]⟩ : ByteArray).size * (64 - s.size) ≤ 140737488355328 := by rw [h1]; omega
  have hr := Tryz.strings_Repeat ⟨#[0]⟩ (64 - s.size) w (by omega) hle
  rw [show ((64 - s.size : Nat) : Int) = 64 - (s.size : Int) from by omega] at hr
  clear h1 hle
  unfold wholeB
  unfold zerosB at hzs ⊢
  generalize (⟨(Lib.repeatL (⟨#[0]⟩ : ByteArray).data.toList (64 - s.size)).toArray⟩ : ByteArray) = z at *
  have hb : s.size + z.size ≤ 9223372036854775807 := by omega
  have HR := Aside0.mk hr; clear hr
  go_enter Tryz.func68, Tryz.ntmps68
  go_wp2_with fail
  refine (HR.out).mono ?_
  rintro e w1 ⟨rfl, hb1⟩
  have HB := Aside0.mk hb1; clear hb1
  go_wp2_with fail
  go_ret
  exact ⟨rfl, HB.out⟩
end Go.Proofs.YteoebfiacnploaaGreat.HRec
namespace Go.Proofs.YteoebfiacnploaaGreat.HRec
open Go.RowKit Go.Proofs.YteoebfiacnploaaGreatW.PrintWords Go.Proofs.YteoebfiacnploaaGreatW.PrintLast Go.Proofs.YteoebfiacnploaaGreatW.PrintMore
open Go.ChangeMaps (setBlock)
set_option linter.unusedVariables false
set_option linter.unusedSimpArgs false
theorem run_check (W : World) (e : Bool) (i : Int) : (Instr.checkKey e 10000 3 (.int .i64 i)).run Tryz.prog W = .ok () W := by
  generalize hn : (10000 : Nat) = n
  obtain ⟨m, rfl⟩ : ∃ m, n = m + 1 := ⟨n - 1, by omega⟩
  simp [Instr.checkKey, run_underlying Tryz.underlying3]
theorem run_zero9 (W : World) : (zeroValue 9).run Tryz.prog W = .ok (.string ⟨#[]⟩) W := by
  have h := info9
  simp only [Option.map_eq_some_iff, Prod.mk.injEq] at h
  obtain ⟨a, h1, h2, _⟩ := h
  simp [zeroValue, typeInfo, Sem.run, h1, h2, Result.andThen]
theorem run_look0 {W : World} {m c : Nat} (hm : W.heap[m]? = some (.map #[] c)) (i : Int) (h0 : 0 ≤ i) (h1 : i < 1000000) : (Instr.lookup 75 (.map (some m)) (.int .i64 i) true).run Tryz.prog W = .ok (.tuple #[.string ⟨#[]⟩, .bool false]) W := by
  simp [Instr.lookup, run_underlying Tryz.underlying75, MapKept.run_getObj_map hm, run_check, run_zero9, Result.andThen, Instr.findKey, run_underlying Tryz.underlying3, Instr.findNow]
theorem run_put0 {W : World} {m c : Nat} (hm : W.heap[m]? = some (.map #[] c)) (i : Int) (h0 : 0 ≤ i) (h1 : i < 1000000) (v : Value) : (Instr.mapUpdate 75 (.map (some m)) (.int .i64 i) v).run Tryz.prog W = .ok () (setBlock W m (.map #[⟨.int .i64 i, v, c⟩] (c + 1))) := by
  simp [Instr.mapUpdate, run_underlying Tryz.underlying75, MapKept.run_getObj_map hm, run_check, Result.andThen, Instr.findKey, run_underlying Tryz.underlying3, Instr.findNow, MapKept.run_setObj_map _ hm, setBlock]
theorem run_clear1 {W : World} {m c : Nat} {es : Array MapEntry} (hm : W.heap[m]? = some (.map es c)) : (Builtin.clear_ #[75] 0 #[.map (some m)]).run Tryz.prog W = .ok (.tuple #[]) (setBlock W m (.map #[] c)) := by
  simp [Builtin.clear_, run_underlying Tryz.underlying75, MapKept.run_getObj_map hm, Result.andThen, MapKept.run_setObj_map _ hm, setBlock]
theorem run_range1 {W : World} {m c : Nat} {es : Array MapEntry} (hm : W.heap[m]? = some (.map es c)) : (Instr.range 75 (.map (some m))).run Tryz.prog W = .ok (.pointer (some ⟨W.heap.size, 0, none⟩)) (W.alloc (.mapIter (some m) c #[] c)) := by
  simp [Instr.range, run_underlying Tryz.underlying75, MapKept.run_getObj_map hm, Result.andThen]
theorem run_next1 {W : World} (ty : TypeId) {r m : Nat} {k v : Value} (hr : W.heap[r]? = some (.mapIter (some m) 1 #[] 1)) (hm : W.heap[m]? = some (.map #[⟨k, v, 0⟩] 1)) : ∃ w1 : World, (w1 = W ∨ w1 = W.drew) ∧ (Instr.next (.pointer (some ⟨r, 0, none⟩)) false ty).run Tryz.prog W = .ok (.tuple #[.bool true, k, v]) (setBlock w1 r (.mapIter (some m) 1 #[0] 1)) := by
  rcases run_next_at (P := Tryz.prog) W ty r m 1 1 #[] #[⟨k, v, 0⟩] 1 hr hm (by simp) (Nat.le_refl _) with ⟨h, _⟩ | ⟨e, he, w1, hw, hrun⟩
  · exact absurd h (by simp [leftOf])
  · simp [leftOf] at he
    subst he
    exact ⟨w1, hw, hrun⟩
theorem run_next0 {W : World} (ty : TypeId) {r m : Nat} {k v : Value} (hr : W.heap[r]? = some (.mapIter (some m) 1 #[0] 1)) (hm : W.heap[m]? = some (.map #[⟨k, v, 0⟩] 1)) : (Instr.next (.pointer (some ⟨r, 0, none⟩)) false ty).run Tryz.prog W = .ok (.tuple #[.bool false]) W := by
  rcases run_next_at (P := Tryz.prog) W ty r m 1 1 #[0] #[⟨k, v, 0⟩] 1 hr hm (by simp) (Nat.le_refl _) with ⟨_, h⟩ | ⟨e, he, w1, hw, hrun⟩
  · exact h
  · simp [leftOf] at he
theorem run_entry1 {W : World} {r m : Nat} {k v : Value} (hr : W.heap[r]? = some (.mapIter (some m) 1 #[0] 1)) (hm : W.heap[m]? = some (.map #[⟨k, v, 0⟩] 1)) : (Instr.entry (.pointer (some ⟨r, 0, none⟩))).run Tryz.prog W = .ok (.tuple #[k, v]) W :=
  run_entry_at (P := Tryz.prog) W r m 1 #[] #[⟨k, v, 0⟩] 1 ⟨k, v, 0⟩ hr hm (by simp) (by simp)
end Go.Proofs.YteoebfiacnploaaGreat.HRec
namespace Go.Proofs.YteoebfiacnploaaGreat.HRec
open Go.RowKit Go.Proofs.YteoebfiacnploaaGreat.HRec Go.Proofs.YteoebfiacnploaaGreatW.PrintWords Go.Proofs.YteoebfiacnploaaGreatW.PrintLast Go.Proofs.YteoebfiacnploaaGreatW.PrintMore
attribute [local go_sem] max2_int min2_int max_two min_two max_three min_three max_four min_four   -- for this text's walks alone
set_option linter.unusedVariables false
set_option linter.unusedSimpArgs false
/-! ### pack_Reader_fail: function 70 -/
def pack_Reader_fail.f (s0_0 : ByteArray) (s0_1 : Int) (s0_2 : Int) (a1 : Int) : Option (ByteArray × Int × Int) := if s0_2 = 0 then (some (s0_0, s0_1, a1)) else (some (s0_0, s0_1, s0_2))
set_option maxHeartbeats 8000000 in
set_option maxRecDepth 100000 in
theorem pack_Reader_fail.calls (g : Nat) (s0_0 : ByteArray) (s0_1 : Int) (s0_2 : Int) (a1 : Int) (r1 : ByteArray) (r2 : Int) (r3 : Int) (w0 w : World) (hI : IsS124 w0 w g s0_0 s0_1 s0_2) (hB : Below w0.heap.size w0 w) (h : pack_Reader_fail.f s0_0 s0_1 s0_2 a1 = some (r1, r2, r3)) :
    Calls Tryz.prog 70 #[.pointer (some ⟨g, 0, none⟩), .int .i64 a1] w fun e w' => e = .returned (.tuple #[]) ∧ IsS124 w0 w' g r1 r2 r3 ∧ Below w0.heap.size w0 w' ∧ KeepBut w w' g none := by
  have HI0 := Aside0.mk hI; have HK := Aside0.mk (KeepBut.refl w g none); have HL := Aside0.mk hB.size; clear hI; have HW0 := Aside0.mk hB.size; have HB := Aside0.mk hB; clear hB
  have H : (if s0_2 = 0 then (some (s0_0, s0_1, a1)) else (some (s0_0, s0_1, s0_2))) = some (r1, r2, r3) := h
  clear h
  by_cases c3 : s0_2 = 0
  · rw [if_pos c3] at H
    have c3b0 : (s0_2 == 0) = true := beq_iff_eq.mpr c3
    have c3b1 : (s0_2 != 0) = false := bne_eq_false_iff_eq.mpr c3
    clear c3
    simp only [Option.some.injEq, Prod.mk.injEq] at H
    obtain ⟨rfl, rfl, rfl⟩ := H
    obtain ⟨HGz4, hgz4⟩ := HI0.out
    have hcz4_0 := cellS124_0 HGz4; have hcz4_1 := cellS124_1 HGz4; have hcz4_2 := cellS124_2 HGz4; have hfz4_0 := blk_frozen HGz4 0; have hfz4_1 := blk_frozen HGz4 1; have hfz4_2 := blk_frozen HGz4 2; clear HGz4 hgz4
    go_enter Tryz.func70, Tryz.ntmps70
    go_wp2
    first | go_end0 | ((try simp only [Exit.inBlock, Exit.then]); refine bodyPost_ret (results_none rfl _ _ _) rfl ?_)
    exact ⟨by first | rfl | (simp [errW_none, errW_some] <;> rfl) | (simp [*, errW_none, errW_some] <;> rfl), by repeat (first | (with_reducible first | exact HI0.out | apply IsS124.alloc | apply IsS124.drewN | apply IsS124.drew | apply IsS124.set_0 | apply IsS124.set_1 | apply IsS124.set_2) | exact HI0.out), by repeat (first | (with_reducible first | exact HB.out | apply below_alloc | apply pw_below_drewN | apply below_drew1 | refine below_set ?_ (IsS124.ge HI0.out)) | exact HB.out), by repeat (first | (with_reducible first | exact HK.out | apply KeepBut.set_ | apply keep_drewN | apply keep_drew | apply keep_alloc) | exact HK.out)⟩
  · rw [if_neg c3] at H
    have c3b0 : (s0_2 == 0) = false := beq_eq_false_iff_ne.mpr c3
    have c3b1 : (s0_2 != 0) = true := bne_iff_ne.mpr c3
    simp only [Option.some.injEq, Prod.mk.injEq] at H
    obtain ⟨rfl, rfl, rfl⟩ := H
    obtain ⟨HGz5, hgz5⟩ := HI0.out
    have hcz5_0 := cellS124_0 HGz5; have hcz5_1 := cellS124_1 HGz5; have hcz5_2 := cellS124_2 HGz5; have hfz5_0 := blk_frozen HGz5 0; have hfz5_1 := blk_frozen HGz5 1; have hfz5_2 := blk_frozen HGz5 2; clear HGz5 hgz5
    go_enter Tryz.func70, Tryz.ntmps70
    go_wp2
    first | go_end0 | ((try simp only [Exit.inBlock, Exit.then]); refine bodyPost_ret (results_none rfl _ _ _) rfl ?_)
    exact ⟨by first | rfl | (simp [errW_none, errW_some] <;> rfl) | (simp [*, errW_none, errW_some] <;> rfl), by repeat (first | (with_reducible first | exact HI0.out | apply IsS124.alloc | apply IsS124.drewN | apply IsS124.drew | apply IsS124.set_0 | apply IsS124.set_1 | apply IsS124.set_2) | exact HI0.out), by repeat (first | (with_reducible first | exact HB.out | apply below_alloc | apply pw_below_drewN | apply below_drew1 | refine below_set ?_ (IsS124.ge HI0.out)) | exact HB.out), by repeat (first | (with_reducible first | exact HK.out | apply KeepBut.set_ | apply keep_drewN | apply keep_drew | apply keep_alloc) | exact HK.out)⟩

end Go.Proofs.YteoebfiacnploaaGreat.HRec
namespace Go.Proofs.YteoebfiacnploaaGreat.HRec
open Go.RowKit Go.Proofs.YteoebfiacnploaaGreatW.PrintWords Go.Proofs.YteoebfiacnploaaGreatW.PrintLast Go.Proofs.YteoebfiacnploaaGreatW.PrintMore
set_option linter.unusedVariables false
set_option linter.unusedSimpArgs false
def pack_Reader_off.f (s : ByteArray) (p e : Int) : Option (Bool × ByteArray × Int × Int) := some (e != 0, s, p, e)
def pack_Reader_Err.f (s : ByteArray) (p e : Int) : Option (Int × ByteArray × Int × Int) := some (e, s, p, e)
set_option maxHeartbeats 4000000 in
set_option maxRecDepth 100000 in
theorem pack_Reader_off.calls (g : Nat) (s0_0 : ByteArray) (s0_1 : Int) (s0_2 : Int) (r1 : Bool) (r2 : ByteArray) (r3 : Int) (r4 : Int) (w0 w : World) (hI : IsS124 w0 w g s0_0 s0_1 s0_2) (hB : Below w0.heap.size w0 w) (h : pack_Reader_off.f s0_0 s0_1 s0_2 = some (r1, r2, r3, r4)) :
    Calls Tryz.prog 69 #[.pointer (some ⟨g, 0, none⟩)] w fun e w' => e = .returned (.bool r1) ∧ IsS124 w0 w' g r2 r3 r4 ∧ Below w0.heap.size w0 w' ∧ KeepBut w w' g none := by
  have HI := Aside0.mk hI; have HB := Aside0.mk hB; have HK := Aside0.mk (KeepBut.refl w g none)
  unfold pack_Reader_off.f at h
  simp only [Option.some.injEq, Prod.mk.injEq] at h
  obtain ⟨rfl, rfl, rfl, rfl⟩ := h
  have c2 := cellS124_2 hI.1; clear hI hB
  by_cases hc : s0_2 = 0
  · have b0 : (s0_2 != 0) = false := bne_eq_false_iff_eq.mpr hc
    rw [b0]
    go_enter Tryz.func69, Tryz.ntmps69
    go_wp2_with fail
    go_ret
    exact ⟨by first | rfl | simp [b0], HI.out, HB.out, HK.out⟩
  · have b0 : (s0_2 != 0) = true := bne_iff_ne.mpr hc
    rw [b0]
    go_enter Tryz.func69, Tryz.ntmps69
    go_wp2_with fail
    go_ret
    exact ⟨by first | rfl | simp [b0], HI.out, HB.out, HK.out⟩
set_option maxHeartbeats 4000000 in
set_option maxRecDepth 100000 in
theorem pack_Reader_Err.calls (g : Nat) (s0_0 : ByteArray) (s0_1 : Int) (s0_2 : Int) (r1 : Int) (r2 : ByteArray) (r3 : Int) (r4 : Int) (w0 w : World) (hI : IsS124 w0 w g s0_0 s0_1 s0_2) (hB : Below w0.heap.size w0 w) (h : pack_Reader_Err.f s0_0 s0_1 s0_2 = some (r1, r2, r3, r4)) :
    Calls Tryz.prog 74 #[.pointer (some ⟨g, 0, none⟩)] w fun e w' => e = .returned (.int .i64 r1) ∧ IsS124 w0 w' g r2 r3 r4 ∧ Below w0.heap.size w0 w' ∧ KeepBut w w' g none := by
  have HI := Aside0.mk hI; have HB := Aside0.mk hB; have HK := Aside0.mk (KeepBut.refl w g none)
  unfold pack_Reader_Err.f at h
  simp only [Option.some.injEq, Prod.mk.injEq] at h
  obtain ⟨rfl, rfl, rfl, rfl⟩ := h
  have c2 := cellS124_2 hI.1; clear hI hB
  go_enter Tryz.func74, Tryz.ntmps74
  go_wp2_with fail
  go_ret
  exact ⟨rfl, HI.out, HB.out, HK.out⟩
end Go.Proofs.YteoebfiacnploaaGreat.HRec
