/- Texts of this proof, put together: DiskA, DiskB, MapLaws, DiskC, DiskD. They prove no statement. -/
import Derived.Test.YteoebfiacnploaaGreatDoorQFtypes
import Derived.BigRegion
import Derived.Maps.Own
import Derived.Test.YteoebfiacnploaaGreatDoorQG0
import Derived.Maps.RangeRun
import Derived.Maps.Keyed
import Derived.Test.YteoebfiacnploaaGreatDoorQG4
import Derived.Test.YteoebfiacnploaaGreatDoorQG6
import Derived.LoopN
namespace Go.Proofs.YteoebfiacnploaaGreatDoor.HRec
open Go.RowKit Go.Proofs.YteoebfiacnploaaGreatDoorW.PrintWords Go.Proofs.YteoebfiacnploaaGreatDoorW.PrintLast Go.Proofs.YteoebfiacnploaaGreatDoorW.PrintMore
set_option linter.unusedVariables false
set_option linter.unusedSimpArgs false
theorem info9 : (Tryz.prog.info? 9).map (fun i => (i.zero, i.size, i.bytes)) = some (some (.string ⟨#[]⟩), 1, 16) := by kernel_rfl
/-- A disk at block d whose power is on and at which no act fails: its row of sectors, the map of what waits, how many acts there were. -/
def IsDisk (W : World) (d m : Nat) (A : Option Addr) (n c : Nat) (acts : Int) : Prop :=
  W.heap[d]? = some (.cells #[.slice A n c, .map (some m), .bool true, .int .i64 (-1), .int .u64 0, .int .i64 acts, .int .i64 0] 73 (0, 0))
section
variable {W W1 : World} {d m : Nat} {A : Option Addr} {n c : Nat} {acts : Int}
theorem IsDisk.below (h : IsDisk W d m A n c acts) (hb : Below W.heap.size W W1) : IsDisk W1 d m A n c acts := blk_below h hb
theorem IsDisk.at_0 (h : IsDisk W d m A n c acts) : W.cell? ⟨d, 0, none⟩ = some (.slice A n c) := (blk_cell h 0).trans rfl
theorem IsDisk.at_1 (h : IsDisk W d m A n c acts) : W.cell? ⟨d, 1, none⟩ = some (.map (some m)) := (blk_cell h 1).trans rfl
theorem IsDisk.at_2 (h : IsDisk W d m A n c acts) : W.cell? ⟨d, 2, none⟩ = some (.bool true) := (blk_cell h 2).trans rfl
theorem IsDisk.at_3 (h : IsDisk W d m A n c acts) : W.cell? ⟨d, 3, none⟩ = some (.int .i64 (-1)) := (blk_cell h 3).trans rfl
theorem IsDisk.at_5 (h : IsDisk W d m A n c acts) : W.cell? ⟨d, 5, none⟩ = some (.int .i64 acts) := (blk_cell h 5).trans rfl
theorem IsDisk.free (h : IsDisk W d m A n c acts) (i : Nat) : W.frozen? ⟨d, i, none⟩ = false := blk_frozen h i
theorem IsDisk.set_5 (h : IsDisk W d m A n c acts) (x : Int) : IsDisk (W.setCell ⟨d, 5, none⟩ (.int .i64 x)) d m A n c x := by unfold IsDisk; simpa using blk_set h 5 (.int .i64 x)
end
set_option maxHeartbeats 4000000 in
set_option maxRecDepth 100000 in
theorem disk_New (n : Int) (w : World) (h1 : 1 ≤ n) (h2 : n ≤ 8192) :
    Calls Tryz.prog 10 #[.int .i64 n] w fun e w' => ∃ d m A c, e = .returned (.tuple #[.pointer (some ⟨d, 0, none⟩), .int .i64 0]) ∧ IsDisk w' d m A n.toNat c 0 ∧ w'.heap[m]? = some (.map #[] 0) ∧ w.heap.size ≤ m ∧ m < d ∧
      Kd.R Kd.string 9 w' w.heap.size (fun k => k < m) (.slice A n.toNat c) (List.replicate n.toNat ⟨#[]⟩) ∧ Below w.heap.size w w' := by
  have b0 : decide (n < 1) = false := decide_eq_false (by omega)
  have b1 : decide (8192 < n) = false := decide_eq_false (by omega)
  have hmm := @run_makeMap Tryz.prog
  go_enter Tryz.func10, Tryz.ntmps10
  go_wp2_with ((with_reducible refine gate_dst (N := 11) rfl ?_); refine Kd.R_make Kd.string w.heap.size 9 rfl (N := 11) rfl 70 _ _ rfl n rfl rfl Tryz.underlying70 (.string ⟨#[]⟩) 16 info9 rfl (by decide) (by decide) ⟨#[]⟩ (ok := fun _ => True) (okp := fun _ => True) rfl (fun _ hk => hk) trivial (by omega) (by omega) (Below.refl _ _) (Nat.le_refl _) ?_; intro v1 w1 ho hb hg_ hnew_; have HO := Aside0.mk ho; have HB := Aside0.mk hb; clear ho hb hg_ hnew_; obtain ⟨A1, c1, rfl⟩ := Kd.R_slice HO.out)
  have hl : (List.replicate n.toNat (⟨#[]⟩ : ByteArray)).length = n.toNat := List.length_replicate
  have ho := HO.out
  rw [hl] at ho
  have hr := Kd.R_bound ho
  have hm : ∀ o1 o2 : Obj, ∀ k, k < w1.heap.size → ((w1.alloc o1).alloc o2).heap[k]? = w1.heap[k]? := fun o1 o2 k hk => (Below.heap_alloc _ _ k (by simp; omega)).trans (Below.heap_alloc _ _ k hk)
  go_ret2
  refine ⟨w1.heap.size + 1, w1.heap.size, A1, c1, rfl, ?_, ?_, HB.out.size, by omega, ?_, ?_⟩
  · have := blk_new (w1.alloc (.map #[] 0)) (.cells #[.slice A1 n.toNat c1, .map (some w1.heap.size), .bool true, .int .i64 (-1), .int .u64 0, .int .i64 0, .int .i64 0] 73)
    rw [show (w1.alloc (.map #[] 0)).heap.size = w1.heap.size + 1 from by simp] at this
    exact this
  · exact (Below.heap_alloc _ _ _ (by simp)).trans (heap_alloc_new w1 _)
  · exact Kd.R_move (Kd.R_mono hr (fun k hk => hk.2.2.1)) (fun k hk => hm _ _ k hk)
  · exact below_alloc (below_alloc HB.out _) _
set_option maxHeartbeats 4000000 in
theorem disk_none (d m : Nat) (A : Option Addr) (n c : Nat) (acts : Int) (w : World) (h : IsDisk w d m A n c acts) (hn : 0 < n) :
    Calls Tryz.prog 69 #[.pointer (some ⟨d, 0, none⟩)] w fun e w' => e = .returned (.bool false) ∧ w' = w := by
  have c0 := IsDisk.at_0 h
  have b0 : ((n : Int) == 0) = false := beq_eq_false_iff_ne.mpr (by omega)
  go_enter Tryz.func69, Tryz.ntmps69
  go_wp2_with fail
  go_ret
  exact ⟨by first | rfl | simp [b0], rfl⟩
set_option maxHeartbeats 4000000 in
theorem disk_Size (d m : Nat) (A : Option Addr) (n c : Nat) (acts : Int) (w : World) (h : IsDisk w d m A n c acts) (hn : 0 < n) :
    Calls Tryz.prog 44 #[.pointer (some ⟨d, 0, none⟩)] w fun e w' => e = .returned (.int .i64 n) ∧ w' = w := by
  have c0 := IsDisk.at_0 h; have H := Aside0.mk h
  go_enter Tryz.func44, Tryz.ntmps44
  go_wp2_with fail
  refine (disk_none d m A n c acts w H.out hn).mono ?_
  rintro e w1 ⟨rfl, rfl⟩
  go_wp2_with fail
  go_ret
  exact ⟨rfl, rfl⟩
set_option maxHeartbeats 4000000 in
theorem disk_check (d m : Nat) (A : Option Addr) (n c : Nat) (acts i : Int) (w : World) (h : IsDisk w d m A n c acts) (h0 : 0 ≤ i) (h1 : i < n) :
    Calls Tryz.prog 70 #[.pointer (some ⟨d, 0, none⟩), .int .i64 i] w fun e w' => e = .returned (.int .i64 0) ∧ w' = w := by
  have c0 := IsDisk.at_0 h; have c2 := IsDisk.at_2 h; have H := Aside0.mk h
  have b0 : decide (i < 0) = false := decide_eq_false (by omega)
  have b1 : decide ((n : Int) ≤ i) = false := decide_eq_false (by omega)
  go_enter Tryz.func70, Tryz.ntmps70
  go_wp2_with fail
  refine (disk_none d m A n c acts w H.out (by omega)).mono ?_
  rintro e w1 ⟨rfl, rfl⟩
  go_wp2_with fail
  go_ret
  exact ⟨rfl, rfl⟩
set_option maxHeartbeats 4000000 in
theorem disk_act (d m : Nat) (A : Option Addr) (n c : Nat) (acts : Int) (w0 w : World) (h : IsDisk w d m A n c acts) (hB : Below w0.heap.size w0 w) (hd : w0.heap.size ≤ d) (h0 : 0 ≤ acts) (h1 : acts ≤ 1000000) :
    Calls Tryz.prog 77 #[.pointer (some ⟨d, 0, none⟩)] w fun e w' => e = .returned (.int .i64 0) ∧ IsDisk w' d m A n c (acts + 1) ∧ Below w0.heap.size w0 w' ∧ KeepBut w w' d none := by
  have c3 := IsDisk.at_3 h; have c5 := IsDisk.at_5 h; have f5 := IsDisk.free h 5; have H := Aside0.mk h; have HB := Aside0.mk hB
  have hw : wrap64 (acts + 1) = acts + 1 := by unfold wrap64; omega
  clear hB
  go_enter Tryz.func77, Tryz.ntmps77
  go_wp2_with fail
  go_ret
  exact ⟨rfl, by first | exact IsDisk.set_5 H.out _ | (rw [hw]; exact IsDisk.set_5 H.out _), below_set HB.out hd, KeepBut.set_ (KeepBut.refl w d none) _ _⟩
end Go.Proofs.YteoebfiacnploaaGreatDoor.HRec
namespace Go.Proofs.YteoebfiacnploaaGreatDoor.HRec
open Go.RowKit Go.Proofs.YteoebfiacnploaaGreatDoorW.PrintWords Go.Proofs.YteoebfiacnploaaGreatDoorW.PrintLast Go.Proofs.YteoebfiacnploaaGreatDoorW.PrintMore
set_option linter.unusedVariables false
set_option linter.unusedSimpArgs false
def zerosB (n : Nat) : ByteArray := ⟨(Lib.repeatL (⟨#[0]⟩ : ByteArray).data.toList n).toArray⟩
theorem zerosB_size (n : Nat) : (zerosB n).size = n := by
  show (Lib.repeatL (⟨#[0]⟩ : ByteArray).data.toList n).toArray.size = n
  rw [List.size_toArray, Lib.repeatL_length]
  simp
def wholeB (s : ByteArray) : ByteArray := s ++ zerosB (64 - s.size)
set_option maxHeartbeats 4000000 in
theorem disk_whole (s : ByteArray) (w : World) (hs : s.size ≤ 64) :
    Calls Tryz.prog 71 #[.string s] w fun e w' => e = .returned (.string (wholeB s)) ∧ Below w.heap.size w w' := by
  have hw : wrap64 (64 - (s.size : Int)) = 64 - (s.size : Int) := by unfold wrap64; omega
  have hzs := zerosB_size (64 - s.size)
  have h1 : (⟨#[0]⟩ : ByteArray).size = 1 := rfl
  have hle : (⟨#[0]⟩ : ByteArray).size * (64 - s.size) ≤ 140737488355328 := by rw [h1]; omega
  have hr := Tryz.strings_Repeat ⟨#[0]⟩ (64 - s.size) w (by omega) hle
  rw [show ((64 - s.size : Nat) : Int) = 64 - (s.size : Int) from by omega] at hr
  clear h1 hle
  unfold wholeB
  unfold zerosB at hzs ⊢
  generalize (⟨(Lib.repeatL (⟨#[0]⟩ : ByteArray).data.toList (64 - s.size)).toArray⟩ : ByteArray) = z at *
  have hb : s.size + z.size ≤ 9223372036854775807 := by omega
  have HR := Aside0.mk hr; clear hr
  go_enter Tryz.func71, Tryz.ntmps71
  go_wp2_with fail
  refine (HR.out).mono ?_
  rintro e w1 ⟨rfl, hb1⟩
  have HB := Aside0.mk hb1; clear hb1
  go_wp2_with fail
  go_ret
  exact ⟨rfl, HB.out⟩
end Go.Proofs.YteoebfiacnploaaGreatDoor.HRec
namespace Go.Proofs.YteoebfiacnploaaGreatDoor.HRec
open Go.RowKit Go.Proofs.YteoebfiacnploaaGreatDoorW.PrintWords Go.Proofs.YteoebfiacnploaaGreatDoorW.PrintLast Go.Proofs.YteoebfiacnploaaGreatDoorW.PrintMore
open Go.ChangeMaps (setBlock)
set_option linter.unusedVariables false
set_option linter.unusedSimpArgs false
theorem run_check (W : World) (e : Bool) (i : Int) : (Instr.checkKey e 10000 3 (.int .i64 i)).run Tryz.prog W = .ok () W := by
  generalize hn : (10000 : Nat) = n
  obtain ⟨m, rfl⟩ : ∃ m, n = m + 1 := ⟨n - 1, by omega⟩
  simp [Instr.checkKey, run_underlying Tryz.underlying3]
theorem run_zero9 (W : World) : (zeroValue 9).run Tryz.prog W = .ok (.string ⟨#[]⟩) W := by
  have h := info9
  simp only [Option.map_eq_some_iff, Prod.mk.injEq] at h
  obtain ⟨a, h1, h2, _⟩ := h
  simp [zeroValue, typeInfo, Sem.run, h1, h2, Result.andThen]
theorem run_look0 {W : World} {m c : Nat} (hm : W.heap[m]? = some (.map #[] c)) (i : Int) (h0 : 0 ≤ i) (h1 : i < 1000000) : (Instr.lookup 71 (.map (some m)) (.int .i64 i) true).run Tryz.prog W = .ok (.tuple #[.string ⟨#[]⟩, .bool false]) W := by
  simp [Instr.lookup, run_underlying Tryz.underlying71, MapKept.run_getObj_map hm, run_check, run_zero9, Result.andThen, Instr.findKey, run_underlying Tryz.underlying3, Instr.findNow]
theorem run_put0 {W : World} {m c : Nat} (hm : W.heap[m]? = some (.map #[] c)) (i : Int) (h0 : 0 ≤ i) (h1 : i < 1000000) (v : Value) : (Instr.mapUpdate 71 (.map (some m)) (.int .i64 i) v).run Tryz.prog W = .ok () (setBlock W m (.map #[⟨.int .i64 i, v, c⟩] (c + 1))) := by
  simp [Instr.mapUpdate, run_underlying Tryz.underlying71, MapKept.run_getObj_map hm, run_check, Result.andThen, Instr.findKey, run_underlying Tryz.underlying3, Instr.findNow, MapKept.run_setObj_map _ hm, setBlock]
theorem run_clear1 {W : World} {m c : Nat} {es : Array MapEntry} (hm : W.heap[m]? = some (.map es c)) : (Builtin.clear_ #[71] 0 #[.map (some m)]).run Tryz.prog W = .ok (.tuple #[]) (setBlock W m (.map #[] c)) := by
  simp [Builtin.clear_, run_underlying Tryz.underlying71, MapKept.run_getObj_map hm, Result.andThen, MapKept.run_setObj_map _ hm, setBlock]
theorem run_range1 {W : World} {m c : Nat} {es : Array MapEntry} (hm : W.heap[m]? = some (.map es c)) : (Instr.range 71 (.map (some m))).run Tryz.prog W = .ok (.pointer (some ⟨W.heap.size, 0, none⟩)) (W.alloc (.mapIter (some m) c #[] c)) := by
  simp [Instr.range, run_underlying Tryz.underlying71, MapKept.run_getObj_map hm, Result.andThen]
theorem run_next1 {W : World} (ty : TypeId) {r m : Nat} {k v : Value} (hr : W.heap[r]? = some (.mapIter (some m) 1 #[] 1)) (hm : W.heap[m]? = some (.map #[⟨k, v, 0⟩] 1)) : ∃ w1 : World, (w1 = W ∨ w1 = W.drew) ∧ (Instr.next (.pointer (some ⟨r, 0, none⟩)) false ty).run Tryz.prog W = .ok (.tuple #[.bool true, k, v]) (setBlock w1 r (.mapIter (some m) 1 #[0] 1)) := by
  rcases run_next_at (P := Tryz.prog) W ty r m 1 1 #[] #[⟨k, v, 0⟩] 1 hr hm (by simp) (Nat.le_refl _) with ⟨h, _⟩ | ⟨e, he, w1, hw, hrun⟩
  · exact absurd h (by simp [leftOf])
  · simp [leftOf] at he
    subst he
    exact ⟨w1, hw, hrun⟩
theorem run_next0 {W : World} (ty : TypeId) {r m : Nat} {k v : Value} (hr : W.heap[r]? = some (.mapIter (some m) 1 #[0] 1)) (hm : W.heap[m]? = some (.map #[⟨k, v, 0⟩] 1)) : (Instr.next (.pointer (some ⟨r, 0, none⟩)) false ty).run Tryz.prog W = .ok (.tuple #[.bool false]) W := by
  rcases run_next_at (P := Tryz.prog) W ty r m 1 1 #[0] #[⟨k, v, 0⟩] 1 hr hm (by simp) (Nat.le_refl _) with ⟨_, h⟩ | ⟨e, he, w1, hw, hrun⟩
  · exact h
  · simp [leftOf] at he
theorem run_entry1 {W : World} {r m : Nat} {k v : Value} (hr : W.heap[r]? = some (.mapIter (some m) 1 #[0] 1)) (hm : W.heap[m]? = some (.map #[⟨k, v, 0⟩] 1)) : (Instr.entry (.pointer (some ⟨r, 0, none⟩))).run Tryz.prog W = .ok (.tuple #[k, v]) W :=
  run_entry_at (P := Tryz.prog) W r m 1 #[] #[⟨k, v, 0⟩] 1 ⟨k, v, 0⟩ hr hm (by simp) (by simp)
end Go.Proofs.YteoebfiacnploaaGreatDoor.HRec
namespace Go.Proofs.YteoebfiacnploaaGreatDoor.HRec
open Go.RowKit Go.Proofs.YteoebfiacnploaaGreatDoorW.PrintWords Go.Proofs.YteoebfiacnploaaGreatDoorW.PrintLast Go.Proofs.YteoebfiacnploaaGreatDoorW.PrintMore
open Go.ChangeMaps (setBlock)
set_option linter.unusedVariables false
set_option linter.unusedSimpArgs false
def disk_Write.T9 : Bool × List (List Nat × List Nat) := (true, [([], []), ([0], [0]), ([1], [1]), ([2], [2]), ([], []), ([], []), ([5], [5]), ([3, 4, 6, 6, 0, 1, 2, 3, 4, 5, 6], [3, 4, 6])])
def disk_Write.B9 : List Nat := [0, 1, 3, 7, 0, 0, 32, 127]
theorem disk_Write.tab9 : rtab .any (opsOf Tryz.f76 9) = disk_Write.T9 := by kernel_rfl
theorem disk_Write.bits9 : waitsOk disk_Write.T9.2 disk_Write.B9 = true := by kernel_rfl
theorem rd_empty (n : Nat) (i : Int) : rdOf ByteArray.empty (List.replicate n (⟨#[]⟩ : ByteArray)) i = ⟨#[]⟩ := by
  unfold rdOf
  rw [List.getD_eq_getElem?_getD, List.getElem?_replicate]
  split <;> rfl
theorem block_other {W : World} {b k : Nat} (o : Obj) (h : k ≠ b) : (setBlock W b o).heap[k]? = W.heap[k]? := by
  show (W.heap.setIfInBounds b o)[k]? = W.heap[k]?
  rw [Array.getElem?_setIfInBounds_ne (fun e => h e.symm)]
theorem block_same {W : World} {b : Nat} (o : Obj) (h : b < W.heap.size) : (setBlock W b o).heap[b]? = some o := by
  show (W.heap.setIfInBounds b o)[b]? = some o
  rw [Array.getElem?_setIfInBounds_self_of_lt h]
theorem block_size {W : World} {b : Nat} (o : Obj) : (setBlock W b o).heap.size = W.heap.size := by
  show (W.heap.setIfInBounds b o).size = _
  simp
theorem block_below {w0 W : World} {b : Nat} (o : Obj) (h : Below w0.heap.size w0 W) (hb : w0.heap.size ≤ b) : Below w0.heap.size w0 (setBlock W b o) :=
  ⟨h.os, h.tape, h.output, by rw [block_size]; exact h.size, fun k hk => (block_other o (by omega)).trans (h.block k hk)⟩
set_option maxHeartbeats 8000000 in
set_option maxRecDepth 100000 in
theorem disk_Read (d m : Nat) (A : Option Addr) (c cl : Nat) (acts i : Int) (w : World) (h : IsDisk w d m A 200 c acts) (hm : w.heap[m]? = some (.map #[] cl)) (hr : Kd.string.C w A 200 (List.replicate 200 (⟨#[]⟩ : ByteArray))) (h0 : 0 ≤ i) (h1 : i < 200) :
    Calls Tryz.prog 45 #[.pointer (some ⟨d, 0, none⟩), .int .i64 i] w fun e w' => e = .returned (.tuple #[.string (wholeB ⟨#[]⟩), .int .i64 0]) ∧ Below w.heap.size w w' := by
  have c0 := IsDisk.at_0 h; have c1 := IsDisk.at_1 h; have hl := run_look0 hm i h0 (by omega)
  obtain ⟨ad, rfl, x0⟩ := Kd.at_string hr i h0 h1
  rw [rd_empty] at x0
  have HC := Aside0.mk (disk_check d m (some ad) 200 c acts i w h h0 (by omega))
  have HW := Aside0.mk (disk_whole ⟨#[]⟩ w (by decide))
  clear hr hm h
  go_enter Tryz.func45, Tryz.ntmps45
  go_wp2_with fail
  refine HC.out.mono ?_
  rintro e w1 ⟨rfl, hw⟩
  rw [hw]
  clear hw w1 HC
  go_wp2_with fail
  refine HW.out.mono ?_
  rintro e w1 ⟨rfl, hb⟩
  have HB := Aside0.mk hb; clear hb HW
  go_wp2_with fail
  go_ret2
  exact ⟨rfl, HB.out⟩
theorem KeepX.below {g h : Nat} {w W W1 : World} (hk : KeepX g h w W) (hb : Below W.heap.size W W1) : KeepX g h w W1 := ⟨Nat.le_trans hk.1 hb.size, fun i hi hg hh => (hb.block i (Nat.lt_of_lt_of_le hi hk.1)).trans (hk.2 i hi hg hh)⟩
theorem KeepX.block {g h : Nat} {w W : World} (o : Obj) (hk : KeepX g h w W) : KeepX g h w (setBlock W h o) := ⟨by rw [block_size]; exact hk.1, fun i hi hg hh => (block_other o hh).trans (hk.2 i hi hg hh)⟩
set_option maxHeartbeats 8000000 in
set_option maxRecDepth 100000 in
theorem disk_Write (d m : Nat) (A : Option Addr) (c : Nat) (acts i : Int) (s : ByteArray) (w0 w : World) (h : IsDisk w d m A 200 c acts) (hm : w.heap[m]? = some (.map #[] 0)) (hdm : m ≠ d) (hB : Below w0.heap.size w0 w) (hd0 : w0.heap.size ≤ d) (hm0 : w0.heap.size ≤ m) (h0 : 0 ≤ i) (h1 : i < 200) (ha0 : 0 ≤ acts) (ha1 : acts ≤ 1000000) (hs : s.size ≤ 64) :
    Calls Tryz.prog 76 #[.pointer (some ⟨d, 0, none⟩), .int .i64 i, .string s] w fun e w' => e = .returned (.int .i64 0) ∧ IsDisk w' d m A 200 c (acts + 1) ∧ w'.heap[m]? = some (.map #[⟨.int .i64 i, .string (wholeB s), 0⟩] 1) ∧ Below w0.heap.size w0 w' ∧ KeepX d m w w' := by
  have HC := Aside0.mk (disk_check d m A 200 c acts i w h h0 (by omega)); have HA := Aside0.mk (disk_act d m A 200 c acts w0 w h hB hd0 ha0 ha1); have HMW := Aside0.mk hm; have HS := Aside0.mk hs; have HG := Aside0.mk hm0
  have b0 : decide ((64 : Int) < (s.size : Int)) = false := decide_eq_false (by omega)
  have hlt : m < w.heap.size := (Array.getElem?_eq_some_iff.1 hm).1
  clear h hB hm hs hm0
  go_enter Tryz.func76, Tryz.ntmps76
  go_wp2_with fail
  refine HC.out.mono ?_
  rintro e w1 ⟨rfl, hw⟩
  rw [hw]
  clear hw w1 HC
  go_wp2_with fail
  refine HA.out.mono ?_
  rintro e W1 ⟨rfl, hd1, hb1, hk1⟩
  have HD := Aside0.mk hd1; have HB := Aside0.mk hb1; have HM := Aside0.mk ((hk1.2 m hlt hdm (by simp)).trans HMW.out)
  have HK : Aside0 (KeepX d m w W1) := ⟨hk1.1, fun i hi hg hh => hk1.2 i hi hg (by simp)⟩
  clear hd1 hb1 hk1 HA HMW
  go_wp2_with fail
  refine start_ (n := 8) (S := fun w' => Below W1.drew.heap.size W1.drew w') (ds := [7]) #[false, false, false, false, false, false, false, false] (by kernel_rfl) rfl rfl (Below.refl _ _) (fun hHeld => ?_); refine with_tabW disk_Write.tab9 disk_Write.bits9 (fun HT_ HW_ => ?_)
  refine ord_ [0, 1, 2, 3, 4, 5, 6, 7] ?_
  have HD2 : Aside0 (IsDisk W1.drew d m A 200 c (acts + 1)) := ⟨HD.out⟩
  have HM2 : Aside0 (W1.drew.heap[m]? = some (.map #[] 0)) := ⟨HM.out⟩
  have HB2 := Aside0.mk (below_drew HB.out)
  have HK2 : Aside0 (KeepX d m w W1.drew) := ⟨HK.out⟩
  have f1_ := Aside0.mk (IsDisk.at_1 HD2.out); clear HD HM HB HK
  generalize W1.drew = W0 at HD2 HM2 HB2 HK2 f1_ hHeld ⊢
  iterate 6
    first
    | refine ordP (v := ?_) (a' := ?_) HT_ rfl rfl (by kernel_rfl) (fun _ _ _ h => h) (.inl ⟨by rfl, ?_⟩) ?_ ?_
      rotate_left
      · intro w'
        go_simp
        with_reducible rfl
      rotate_left
      · simp only [Act.put, List.setIfInBounds_toArray, List.set_cons_zero, List.set_cons_succ, i64_w, i32_w]
        rfl
    | refine ordT (v := ?_) (a' := ?_) HT_ HW_ rfl rfl (by kernel_rfl) (fun _ _ _ h => h) (.inl ⟨by rfl, ?_⟩) hHeld ?_ ?_
      rotate_left
      · intro w' hs
        have s1 := below_cell hs f1_.out
        go_simp
        with_reducible rfl
      rotate_left
      · simp only [Act.put, List.setIfInBounds_toArray, List.set_cons_zero, List.set_cons_succ, i64_w, i32_w]
        rfl
  refine ord1 (N := some 29) HT_ rfl rfl (by kernel_rfl) (by decide) (fun K hK => ?_)
  refine goes_ Tryz.func71 (by kernel_rfl) rfl #[.string s] (by rfl) rfl rfl (by (try simp only [List.map_toArray, List.map_cons, List.map_nil]); rfl) ?_
  refine (disk_whole s W0 HS.out).mono ?_
  rintro e w3 ⟨rfl, hb⟩
  refine ⟨_, rfl, ?_⟩
  refine hK.out _ _ hb (fun hHeld2 => ?_)
  clear hK K; have HD3 := Aside0.mk (IsDisk.below HD2.out hb)
  have HM3 := Aside0.mk ((hb.block m (Array.getElem?_eq_some_iff.1 HM2.out).1).trans HM2.out)
  have HB3 := Aside0.mk (below_step HB2.out hb); have HK3 := Aside0.mk (KeepX.below HK2.out hb); clear hb hHeld2 hHeld HD2 HM2 HB2 HK2
  refine ordN (a' := ?_) ?_ ?_
  rotate_left
  · simp only [Act.put, List.setIfInBounds_toArray, List.set_cons_zero, List.set_cons_succ]
    rfl
  refine ordL (N := none) HT_ rfl rfl (by kernel_rfl) (by decide) (fun K hK => ?_)
  have hp := run_put0 HM3.out i h0 (by omega) (.string (wholeB s))
  with_reducible refine store_step (w1 := setBlock w3 m (.map #[⟨.int .i64 i, .string (wholeB s), 0⟩] 1)) ?hw ?hd ?hr ?_
  case hw => rfl
  case hd => rfl
  case hr => first | (go_simp; done) | (go_simp; rfl)
  refine hK.out _ _ ?_
  clear hK K hp
  refine ordD HT_ (by kernel_rfl) ?_
  have HM4 := Aside0.mk (block_same (W := w3) (.map #[⟨.int .i64 i, .string (wholeB s), 0⟩] 1) (Array.getElem?_eq_some_iff.1 HM3.out).1)
  have HD4 : Aside0 (IsDisk (setBlock w3 m (.map #[⟨.int .i64 i, .string (wholeB s), 0⟩] 1)) d m A 200 c (acts + 1)) := ⟨(block_other _ (fun e => hdm e.symm)).trans HD3.out⟩
  have HB4 := Aside0.mk (block_below (.map #[⟨.int .i64 i, .string (wholeB s), 0⟩] 1) HB3.out HG.out)
  have HK4 := Aside0.mk (KeepX.block (.map #[⟨.int .i64 i, .string (wholeB s), 0⟩] 1) HK3.out)
  clear HD3 HM3 HB3 HK3
  generalize setBlock w3 m (.map #[⟨.int .i64 i, .string (wholeB s), 0⟩] 1) = W4 at HM4 HD4 HB4 HK4 ⊢
  go_wp2_with fail
  go_ret
  exact ⟨rfl, HD4.out, HM4.out, HB4.out, HK4.out⟩
end Go.Proofs.YteoebfiacnploaaGreatDoor.HRec
namespace Go.Proofs.YteoebfiacnploaaGreatDoor.HRec
open Go.RowKit Go.Proofs.YteoebfiacnploaaGreatDoorW.PrintWords Go.Proofs.YteoebfiacnploaaGreatDoorW.PrintLast Go.Proofs.YteoebfiacnploaaGreatDoorW.PrintMore
open Go.ChangeMaps (setBlock)
set_option linter.unusedVariables false
set_option linter.unusedSimpArgs false
theorem next_one {W : World} {r m : Nat} {k v : Value} (hr : W.heap[r]? = some (.mapIter (some m) 1 #[] 1)) (hm : W.heap[m]? = some (.map #[⟨k, v, 0⟩] 1)) : ∃ W3 : World, (Instr.next (.pointer (some ⟨r, 0, none⟩)) false 0).run Tryz.prog W = .ok (.tuple #[.bool true, k, v]) W3 ∧ W3.heap[r]? = some (.mapIter (some m) 1 #[0] 1) ∧ (∀ j, j ≠ r → W3.heap[j]? = W.heap[j]?) ∧ W3.heap.size = W.heap.size ∧ ∀ w0 : World, Below w0.heap.size w0 W → w0.heap.size ≤ r → Below w0.heap.size w0 W3 := by
  obtain ⟨w1, hal, hrun⟩ := run_next1 0 hr hm
  have hlt : r < W.heap.size := (Array.getElem?_eq_some_iff.1 hr).1
  rcases hal with rfl | rfl
  · exact ⟨_, hrun, block_same _ hlt, fun j hj => block_other _ hj, block_size _, fun w0 hb hle => block_below _ hb hle⟩
  · exact ⟨_, hrun, block_same (W := W.drew) _ hlt, fun j hj => block_other (W := W.drew) _ hj, block_size (W := W.drew) _, fun w0 hb hle => block_below (W := W.drew) _ (below_drew hb) hle⟩
set_option maxHeartbeats 8000000 in
set_option maxRecDepth 100000 in
theorem disk_Sync (d m : Nat) (A : Option Addr) (c : Nat) (acts i : Int) (v : ByteArray) (xs : List ByteArray) (w0 w : World) (h : IsDisk w d m A 200 c acts) (hm : w.heap[m]? = some (.map #[⟨.int .i64 i, .string v, 0⟩] 1)) (hr : Kd.R Kd.string 9 w w0.heap.size (fun k => k < m) (.slice A 200 c) xs) (hmd : m < d) (hB : Below w0.heap.size w0 w) (hm0 : w0.heap.size ≤ m) (h0 : 0 ≤ i) (h1 : i < 200) (ha0 : 0 ≤ acts) (ha1 : acts ≤ 1000000) :
    Calls Tryz.prog 51 #[.pointer (some ⟨d, 0, none⟩)] w fun e w' => e = .returned (.int .i64 0) ∧ Below w0.heap.size w0 w' ∧ ∀ k, d < k → k < w.heap.size → w'.heap[k]? = w.heap[k]? := by
  have HC := Aside0.mk (disk_check d m A 200 c acts 0 w h (by omega) (by omega)); have HA := Aside0.mk (disk_act d m A 200 c acts w0 w h hB (by omega) ha0 ha1); have HMW := Aside0.mk hm
  have hlt : m < w.heap.size := (Array.getElem?_eq_some_iff.1 hm).1
  have hl := (Kd.R_reads' hr).1
  obtain ⟨g, cap, ef, hg0, hg1, _⟩ := Kd.R_form hr (by omega)
  injection ef with e1 e2 e3
  subst e1
  subst e3
  have hgm : g < m := hr.1 g rfl
  have HR := Aside0.mk hr; have HG0 := Aside0.mk hg0; have HM0 := Aside0.mk hm0; have HMD := Aside0.mk hmd; clear h hB hm hr hg0 e2
  go_enter Tryz.func51, Tryz.ntmps51
  go_wp2_with fail
  refine HC.out.mono ?_
  rintro e w1 ⟨rfl, hw⟩
  rw [hw]
  clear hw w1 HC
  go_wp2_with fail
  refine HA.out.mono ?_
  rintro e W1 ⟨rfl, hd1, hb1, hk1⟩
  have HR1 := Aside0.mk (Kd.R_step HR.out (fun k ho hk => hk1.2 k hk (by omega) (by simp)))
  have hm1 := (hk1.2 m hlt (by omega) (by simp)).trans HMW.out
  have HK1 : Aside0 (∀ k, d < k → k < w.heap.size → W1.heap[k]? = w.heap[k]?) := ⟨fun k hk hk2 => hk1.2 k hk2 (by omega) (by simp)⟩
  have hsz1 : w.heap.size ≤ W1.heap.size := hk1.1
  have hrg := run_range1 hm1
  have hdl : d < W1.heap.size := (Array.getElem?_eq_some_iff.1 hd1).1
  have D2 := Aside0.mk (IsDisk.below hd1 (below_alloc (Below.refl _ _) (.mapIter (some m) 1 #[] 1)))
  have hm2 : (W1.alloc (.mapIter (some m) 1 #[] 1)).heap[m]? = some (.map #[⟨.int .i64 i, .string v, 0⟩] 1) := (Below.heap_alloc _ _ m (by omega)).trans hm1
  have hi2 : (W1.alloc (.mapIter (some m) 1 #[] 1)).heap[W1.heap.size]? = some (.mapIter (some m) 1 #[] 1) := heap_alloc_new W1 _
  have B2 := Aside0.mk (below_alloc hb1 (.mapIter (some m) 1 #[] 1))
  have K2 : Aside0 (∀ k, d < k → k < w.heap.size → (W1.alloc (.mapIter (some m) 1 #[] 1)).heap[k]? = w.heap[k]?) := ⟨fun k hk hk2 => (Below.heap_alloc _ _ k (by omega)).trans (HK1.out k hk hk2)⟩
  have R2 := Aside0.mk (Kd.R_alloc HR1.out (.mapIter (some m) 1 #[] 1))
  have HBr := Aside0.mk (Nat.le_trans HM0.out (Nat.le_of_lt (Nat.lt_trans HMD.out hdl)))
  have hne1 : m ≠ W1.heap.size := by omega
  have hne2 : d ≠ W1.heap.size := by omega
  have hne3 : g ≠ W1.heap.size := by omega
  have c1 := IsDisk.at_1 hd1
  have hrs : w.heap.size ≤ W1.heap.size := hsz1
  clear hk1 hd1 hb1 hm1 HR1 HK1 HA HMW HR
  generalize W1.alloc (.mapIter (some m) 1 #[] 1) = W2 at hrg D2 hm2 hi2 B2 K2 R2
  obtain ⟨W3, hn1, hi3, ho3, hs3, hb3⟩ := next_one hi2 hm2
  have D3 : Aside0 (IsDisk W3 d m (some ⟨g, 0, none⟩) 200 c (acts + 1)) := ⟨(ho3 d hne2).trans D2.out⟩
  have hm3 := (ho3 m hne1).trans hm2; have B3 := Aside0.mk (hb3 w0 B2.out HBr.out)
  have K3 : Aside0 (∀ k, d < k → k < w.heap.size → W3.heap[k]? = w.heap[k]?) := ⟨fun k hk hk2 => (ho3 k (by omega)).trans (K2.out k hk hk2)⟩
  have R3 := Aside0.mk (Kd.R_step R2.out (fun k ho hk => ho3 k (by omega)))
  have hen := run_entry1 hi3 hm3; have c30 := IsDisk.at_0 D3.out
  obtain ⟨x3, f3⟩ := Kd.R_celln ByteArray.empty R3.out i h0 h1
  have hi4 : (W3.setCell ⟨g, i.toNat, none⟩ (.string v)).heap[W1.heap.size]? = some (.mapIter (some m) 1 #[0] 1) := (Below.heap_setCell _ _ _ _ (by show _ ≠ g; omega)).trans hi3
  have hm4 : (W3.setCell ⟨g, i.toNat, none⟩ (.string v)).heap[m]? = some (.map #[⟨.int .i64 i, .string v, 0⟩] 1) := (Below.heap_setCell _ _ _ _ (by show _ ≠ g; omega)).trans hm3
  have D4 : Aside0 (IsDisk (W3.setCell ⟨g, i.toNat, none⟩ (.string v)) d m (some ⟨g, 0, none⟩) 200 c (acts + 1)) := ⟨(Below.heap_setCell _ _ _ _ (by show _ ≠ g; omega)).trans D3.out⟩
  have B4 := Aside0.mk (below_set (j := i.toNat) (v := .string v) B3.out HG0.out)
  have K4 : Aside0 (∀ k, d < k → k < w.heap.size → (W3.setCell ⟨g, i.toNat, none⟩ (.string v)).heap[k]? = w.heap[k]?) := ⟨fun k hk hk2 => (Below.heap_setCell _ _ _ _ (by show _ ≠ g; omega)).trans (K3.out k hk hk2)⟩
  have hn2 := run_next0 0 hi4 hm4; have c41 := IsDisk.at_1 D4.out; have hcl := run_clear1 hm4
  have B5 := Aside0.mk (block_below (.map #[] 1) B4.out HM0.out)
  have K5 : Aside0 (∀ k, d < k → k < w.heap.size → (setBlock (W3.setCell ⟨g, i.toNat, none⟩ (.string v)) m (.map #[] 1)).heap[k]? = w.heap[k]?) := ⟨fun k hk hk2 => (block_other _ (by omega)).trans (K4.out k hk hk2)⟩
  clear hi2 hm2 ho3 hb3 hi3 hm3 hi4 hm4 D2 B2 K2 R2 D3 B3 K3 R3 D4 B4 K4
  have hu : (i < (200 : Int)) := h1
  go_wp2_with fail
  refine wp_loop_rounds 2 ?_
  rw [rounds_succ]
  go_wp2_with fail
  rw [rounds_succ]
  go_wp2_with fail
  go_ret
  exact ⟨rfl, B5.out, K5.out⟩
end Go.Proofs.YteoebfiacnploaaGreatDoor.HRec
