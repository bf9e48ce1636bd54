/- Texts of this proof, put together: DiskD, WalA, FpackRead, Fsumhalf. They prove no statement. -/
import Derived.Test.YteoebfiacnploaaGreatQG3
import Derived.LoopN
import Derived.Test.YteoebfiacnploaaGreatQFtypes
import Derived.BigRegion
namespace Go.Proofs.YteoebfiacnploaaGreat.HRec
open Go.RowKit Go.Proofs.YteoebfiacnploaaGreatW.PrintWords Go.Proofs.YteoebfiacnploaaGreatW.PrintLast Go.Proofs.YteoebfiacnploaaGreatW.PrintMore
open Go.ChangeMaps (setBlock)
set_option linter.unusedVariables false
set_option linter.unusedSimpArgs false
theorem next_one {W : World} {r m : Nat} {k v : Value} (hr : W.heap[r]? = some (.mapIter (some m) 1 #[] 1)) (hm : W.heap[m]? = some (.map #[⟨k, v, 0⟩] 1)) : ∃ W3 : World, (Instr.next (.pointer (some ⟨r, 0, none⟩)) false 0).run Tryz.prog W = .ok (.tuple #[.bool true, k, v]) W3 ∧ W3.heap[r]? = some (.mapIter (some m) 1 #[0] 1) ∧ (∀ j, j ≠ r → W3.heap[j]? = W.heap[j]?) ∧ W3.heap.size = W.heap.size ∧ ∀ w0 : World, Below w0.heap.size w0 W → w0.heap.size ≤ r → Below w0.heap.size w0 W3 := by
  obtain ⟨w1, hal, hrun⟩ := run_next1 0 hr hm
  have hlt : r < W.heap.size := (Array.getElem?_eq_some_iff.1 hr).1
  rcases hal with rfl | rfl
  · exact ⟨_, hrun, block_same _ hlt, fun j hj => block_other _ hj, block_size _, fun w0 hb hle => block_below _ hb hle⟩
  · exact ⟨_, hrun, block_same (W := W.drew) _ hlt, fun j hj => block_other (W := W.drew) _ hj, block_size (W := W.drew) _, fun w0 hb hle => block_below (W := W.drew) _ (below_drew hb) hle⟩
set_option maxHeartbeats 8000000 in
set_option maxRecDepth 100000 in
theorem disk_Sync (d m : Nat) (A : Option Addr) (c : Nat) (acts i : Int) (v : ByteArray) (xs : List ByteArray) (w0 w : World) (h : IsDisk w d m A 200 c acts) (hm : w.heap[m]? = some (.map #[⟨.int .i64 i, .string v, 0⟩] 1)) (hr : Kd.R Kd.string 9 w w0.heap.size (fun k => k < m) (.slice A 200 c) xs) (hmd : m < d) (hB : Below w0.heap.size w0 w) (hm0 : w0.heap.size ≤ m) (h0 : 0 ≤ i) (h1 : i < 200) (ha0 : 0 ≤ acts) (ha1 : acts ≤ 1000000) :
    Calls Tryz.prog 52 #[.pointer (some ⟨d, 0, none⟩)] w fun e w' => e = .returned (.int .i64 0) ∧ Below w0.heap.size w0 w' ∧ ∀ k, d < k → k < w.heap.size → w'.heap[k]? = w.heap[k]? := by
  have HC := Aside0.mk (disk_check d m A 200 c acts 0 w h (by omega) (by omega)); have HA := Aside0.mk (disk_act d m A 200 c acts w0 w h hB (by omega) ha0 ha1); have HMW := Aside0.mk hm
  have hlt : m < w.heap.size := (Array.getElem?_eq_some_iff.1 hm).1
  have hl := (Kd.R_reads' hr).1
  obtain ⟨g, cap, ef, hg0, hg1, _⟩ := Kd.R_form hr (by omega)
  injection ef with e1 e2 e3
  subst e1
  subst e3
  have hgm : g < m := hr.1 g rfl
  have HR := Aside0.mk hr; have HG0 := Aside0.mk hg0; have HM0 := Aside0.mk hm0; have HMD := Aside0.mk hmd; clear h hB hm hr hg0 e2
  go_enter Tryz.func52, Tryz.ntmps52
  go_wp2_with fail
  refine HC.out.mono ?_
  rintro e w1 ⟨rfl, hw⟩
  rw [hw]
  clear hw w1 HC
  go_wp2_with fail
  refine HA.out.mono ?_
  rintro e W1 ⟨rfl, hd1, hb1, hk1⟩
  have HR1 := Aside0.mk (Kd.R_step HR.out (fun k ho hk => hk1.2 k hk (by omega) (by simp)))
  have hm1 := (hk1.2 m hlt (by omega) (by simp)).trans HMW.out
  have HK1 : Aside0 (∀ k, d < k → k < w.heap.size → W1.heap[k]? = w.heap[k]?) := ⟨fun k hk hk2 => hk1.2 k hk2 (by omega) (by simp)⟩
  have hsz1 : w.heap.size ≤ W1.heap.size := hk1.1
  have hrg := run_range1 hm1
  have hdl : d < W1.heap.size := (Array.getElem?_eq_some_iff.1 hd1).1
  have D2 := Aside0.mk (IsDisk.below hd1 (below_alloc (Below.refl _ _) (.mapIter (some m) 1 #[] 1)))
  have hm2 : (W1.alloc (.mapIter (some m) 1 #[] 1)).heap[m]? = some (.map #[⟨.int .i64 i, .string v, 0⟩] 1) := (Below.heap_alloc _ _ m (by omega)).trans hm1
  have hi2 : (W1.alloc (.mapIter (some m) 1 #[] 1)).heap[W1.heap.size]? = some (.mapIter (some m) 1 #[] 1) := heap_alloc_new W1 _
  have B2 := Aside0.mk (below_alloc hb1 (.mapIter (some m) 1 #[] 1))
  have K2 : Aside0 (∀ k, d < k → k < w.heap.size → (W1.alloc (.mapIter (some m) 1 #[] 1)).heap[k]? = w.heap[k]?) := ⟨fun k hk hk2 => (Below.heap_alloc _ _ k (by omega)).trans (HK1.out k hk hk2)⟩
  have R2 := Aside0.mk (Kd.R_alloc HR1.out (.mapIter (some m) 1 #[] 1))
  have HBr := Aside0.mk (Nat.le_trans HM0.out (Nat.le_of_lt (Nat.lt_trans HMD.out hdl)))
  have hne1 : m ≠ W1.heap.size := by omega
  have hne2 : d ≠ W1.heap.size := by omega
  have hne3 : g ≠ W1.heap.size := by omega
  have c1 := IsDisk.at_1 hd1
  have hrs : w.heap.size ≤ W1.heap.size := hsz1
  clear hk1 hd1 hb1 hm1 HR1 HK1 HA HMW HR
  generalize W1.alloc (.mapIter (some m) 1 #[] 1) = W2 at hrg D2 hm2 hi2 B2 K2 R2
  obtain ⟨W3, hn1, hi3, ho3, hs3, hb3⟩ := next_one hi2 hm2
  have D3 : Aside0 (IsDisk W3 d m (some ⟨g, 0, none⟩) 200 c (acts + 1)) := ⟨(ho3 d hne2).trans D2.out⟩
  have hm3 := (ho3 m hne1).trans hm2; have B3 := Aside0.mk (hb3 w0 B2.out HBr.out)
  have K3 : Aside0 (∀ k, d < k → k < w.heap.size → W3.heap[k]? = w.heap[k]?) := ⟨fun k hk hk2 => (ho3 k (by omega)).trans (K2.out k hk hk2)⟩
  have R3 := Aside0.mk (Kd.R_step R2.out (fun k ho hk => ho3 k (by omega)))
  have hen := run_entry1 hi3 hm3; have c30 := IsDisk.at_0 D3.out
  obtain ⟨x3, f3⟩ := Kd.R_celln ByteArray.empty R3.out i h0 h1
  have hi4 : (W3.setCell ⟨g, i.toNat, none⟩ (.string v)).heap[W1.heap.size]? = some (.mapIter (some m) 1 #[0] 1) := (Below.heap_setCell _ _ _ _ (by show _ ≠ g; omega)).trans hi3
  have hm4 : (W3.setCell ⟨g, i.toNat, none⟩ (.string v)).heap[m]? = some (.map #[⟨.int .i64 i, .string v, 0⟩] 1) := (Below.heap_setCell _ _ _ _ (by show _ ≠ g; omega)).trans hm3
  have D4 : Aside0 (IsDisk (W3.setCell ⟨g, i.toNat, none⟩ (.string v)) d m (some ⟨g, 0, none⟩) 200 c (acts + 1)) := ⟨(Below.heap_setCell _ _ _ _ (by show _ ≠ g; omega)).trans D3.out⟩
  have B4 := Aside0.mk (below_set (j := i.toNat) (v := .string v) B3.out HG0.out)
  have K4 : Aside0 (∀ k, d < k → k < w.heap.size → (W3.setCell ⟨g, i.toNat, none⟩ (.string v)).heap[k]? = w.heap[k]?) := ⟨fun k hk hk2 => (Below.heap_setCell _ _ _ _ (by show _ ≠ g; omega)).trans (K3.out k hk hk2)⟩
  have hn2 := run_next0 0 hi4 hm4; have c41 := IsDisk.at_1 D4.out; have hcl := run_clear1 hm4
  have B5 := Aside0.mk (block_below (.map #[] 1) B4.out HM0.out)
  have K5 : Aside0 (∀ k, d < k → k < w.heap.size → (setBlock (W3.setCell ⟨g, i.toNat, none⟩ (.string v)) m (.map #[] 1)).heap[k]? = w.heap[k]?) := ⟨fun k hk hk2 => (block_other _ (by omega)).trans (K4.out k hk hk2)⟩
  clear hi2 hm2 ho3 hb3 hi3 hm3 hi4 hm4 D2 B2 K2 R2 D3 B3 K3 R3 D4 B4 K4
  have hu : (i < (200 : Int)) := h1
  go_wp2_with fail
  refine wp_loop_rounds 2 ?_
  rw [rounds_succ]
  go_wp2_with fail
  rw [rounds_succ]
  go_wp2_with fail
  go_ret
  exact ⟨rfl, B5.out, K5.out⟩
end Go.Proofs.YteoebfiacnploaaGreat.HRec
namespace Go.Proofs.YteoebfiacnploaaGreat.HRec
open Go.RowKit Go.Proofs.YteoebfiacnploaaGreatW.PrintWords Go.Proofs.YteoebfiacnploaaGreatW.PrintLast Go.Proofs.YteoebfiacnploaaGreatW.PrintMore
set_option linter.unusedVariables false
set_option linter.unusedSimpArgs false
/-- A log at block L: its disk, where it begins, how many sectors, its run, its bytes, how many last; it is not dead. -/
def IsLog (W : World) (L d : Nat) (base sectors run : Int) (all : ByteArray) (dur : Int) : Prop :=
  W.heap[L]? = some (.cells #[.pointer (some ⟨d, 0, none⟩), .int .i64 base, .int .i64 sectors, .int .i64 run, .string all, .int .i64 dur, .bool false] 59 (0, 0))
section
variable {W W1 : World} {L d : Nat} {base sectors run : Int} {all : ByteArray} {dur : Int}
theorem IsLog.below (h : IsLog W L d base sectors run all dur) (hb : Below W.heap.size W W1) : IsLog W1 L d base sectors run all dur := blk_below h hb
theorem IsLog.at_0 (h : IsLog W L d base sectors run all dur) : W.cell? ⟨L, 0, none⟩ = some (.pointer (some ⟨d, 0, none⟩)) := (blk_cell h 0).trans rfl
theorem IsLog.at_2 (h : IsLog W L d base sectors run all dur) : W.cell? ⟨L, 2, none⟩ = some (.int .i64 sectors) := (blk_cell h 2).trans rfl
theorem IsLog.at_4 (h : IsLog W L d base sectors run all dur) : W.cell? ⟨L, 4, none⟩ = some (.string all) := (blk_cell h 4).trans rfl
theorem IsLog.at_6 (h : IsLog W L d base sectors run all dur) : W.cell? ⟨L, 6, none⟩ = some (.bool false) := (blk_cell h 6).trans rfl
theorem IsLog.free (h : IsLog W L d base sectors run all dur) (i : Nat) : W.frozen? ⟨L, i, none⟩ = false := blk_frozen h i
theorem IsLog.set_4 (h : IsLog W L d base sectors run all dur) (s : ByteArray) : IsLog (W.setCell ⟨L, 4, none⟩ (.string s)) L d base sectors run s dur := by unfold IsLog; simpa using blk_set h 4 (.string s)
end
set_option maxHeartbeats 4000000 in
theorem log_none (L d : Nat) (base sectors run : Int) (all : ByteArray) (dur : Int) (w : World) (h : IsLog w L d base sectors run all dur) :
    Calls Tryz.prog 20 #[.pointer (some ⟨L, 0, none⟩)] w fun e w' => e = .returned (.bool false) ∧ w' = w := by
  have c0 := IsLog.at_0 h
  go_enter Tryz.func20, Tryz.ntmps20
  go_wp2_with fail
  go_ret
  exact ⟨rfl, rfl⟩
set_option maxHeartbeats 4000000 in
theorem log_off (L d : Nat) (base sectors run : Int) (all : ByteArray) (dur : Int) (w : World) (h : IsLog w L d base sectors run all dur) :
    Calls Tryz.prog 26 #[.pointer (some ⟨L, 0, none⟩)] w fun e w' => e = .returned (.int .i64 0) ∧ w' = w := by
  have c6 := IsLog.at_6 h; have H := Aside0.mk h
  go_enter Tryz.func26, Tryz.ntmps26
  go_wp2_with fail
  refine (log_none L d base sectors run all dur w H.out).mono ?_
  rintro e w1 ⟨rfl, rfl⟩
  go_wp2_with fail
  go_ret
  exact ⟨rfl, rfl⟩
set_option maxHeartbeats 4000000 in
theorem log_End (L d : Nat) (base sectors run : Int) (all : ByteArray) (dur : Int) (w : World) (h : IsLog w L d base sectors run all dur) (hs : all.size ≤ 1000000) :
    Calls Tryz.prog 35 #[.pointer (some ⟨L, 0, none⟩)] w fun e w' => e = .returned (.int .i64 ((all.size : Int) + 1)) ∧ w' = w := by
  have c4 := IsLog.at_4 h; have H := Aside0.mk h
  have hw : wrap64 ((all.size : Int) + 1) = (all.size : Int) + 1 := by unfold wrap64; omega
  go_enter Tryz.func35, Tryz.ntmps35
  go_wp2_with fail
  refine (log_none L d base sectors run all dur w H.out).mono ?_
  rintro e w1 ⟨rfl, rfl⟩
  go_wp2_with fail
  go_ret
  exact ⟨rfl, rfl⟩
set_option maxHeartbeats 4000000 in
theorem log_Left (L d : Nat) (base run : Int) (all : ByteArray) (dur : Int) (w : World) (h : IsLog w L d base 200 run all dur) (hs : all.size ≤ 1000000) :
    Calls Tryz.prog 42 #[.pointer (some ⟨L, 0, none⟩)] w fun e w' => e = .returned (.int .i64 (11600 - (all.size : Int))) ∧ w' = w.drew := by
  have c4 := IsLog.at_4 h; have c2 := IsLog.at_2 h; have H := Aside0.mk h
  have hw : wrap64 (11600 - (all.size : Int)) = 11600 - (all.size : Int) := by unfold wrap64; omega
  go_enter Tryz.func42, Tryz.ntmps42
  go_wp2_with fail
  refine (log_none L d base 200 run all dur w H.out).mono ?_
  rintro e w1 ⟨rfl, rfl⟩
  go_wp2_with fail
  go_region
  go_wp2_with fail
  go_ret
  exact ⟨by first | rfl | simp [hw], rfl⟩
/-- What is put behind a log's bytes, if it has room. -/
def addF (all s : ByteArray) : ByteArray × Int × Int := if (s.size : Int) > 11600 - (all.size : Int) then (all, 0, 7) else (all ++ s, (all.size : Int) + 1, 0)
set_option maxHeartbeats 4000000 in
theorem log_add (L d : Nat) (base run : Int) (all s : ByteArray) (dur : Int) (w0 w : World) (h : IsLog w L d base 200 run all dur) (hs : all.size ≤ 11600) (hB : Below w0.heap.size w0 w) (hL : w0.heap.size ≤ L) :
    Calls Tryz.prog 28 #[.pointer (some ⟨L, 0, none⟩), .string s] w fun e w' => e = .returned (.tuple #[.int .i64 (addF all s).2.1, .int .i64 (addF all s).2.2]) ∧ IsLog w' L d base 200 run (addF all s).1 dur ∧ Below w0.heap.size w0 w' ∧ KeepBut w w' L none := by
  have H := Aside0.mk h; have HB := Aside0.mk hB; have HK := Aside0.mk (KeepBut.refl w L none); clear hB
  by_cases hz : (s.size : Int) > 11600 - (all.size : Int)
  · have e1 : addF all s = (all, 0, 7) := if_pos hz
    rw [e1]
    have b0 : decide (11600 - (all.size : Int) < (s.size : Int)) = true := decide_eq_true (by omega)
    go_enter Tryz.func28, Tryz.ntmps28
    go_wp2_with fail
    refine (log_Left L d base run all dur w H.out (by omega)).mono ?_
    rintro e w1 ⟨rfl, rfl⟩
    go_wp2_with fail
    go_ret2
    exact ⟨rfl, H.out, below_drew HB.out, keep_drew HK.out⟩
  · have e1 : addF all s = (all ++ s, (all.size : Int) + 1, 0) := if_neg hz
    rw [e1]
    have b0 : decide (11600 - (all.size : Int) < (s.size : Int)) = false := decide_eq_false (by omega)
    go_enter Tryz.func28, Tryz.ntmps28
    go_wp2_with fail
    refine (log_Left L d base run all dur w H.out (by omega)).mono ?_
    rintro e w1 ⟨rfl, rfl⟩
    go_wp2_with fail
    refine (log_End L d base 200 run all dur w.drew H.out (by omega)).mono ?_
    rintro e w1 ⟨rfl, rfl⟩
    have c4 : w.drew.cell? ⟨L, 4, none⟩ = some (.string all) := IsLog.at_4 H.out
    have f4 : w.drew.frozen? ⟨L, 4, none⟩ = false := IsLog.free H.out 4
    have hb1 : all.size + s.size ≤ 9223372036854775807 := by omega
    go_wp2_with fail
    go_ret2
    exact ⟨rfl, IsLog.set_4 (W := w.drew) H.out _, below_set (below_drew HB.out) hL, KeepBut.set_ (keep_drew HK.out) _ _⟩
end Go.Proofs.YteoebfiacnploaaGreat.HRec
namespace Go.Proofs.YteoebfiacnploaaGreat.HRec
open Go.RowKit Go.Proofs.YteoebfiacnploaaGreat.HRec Go.Proofs.YteoebfiacnploaaGreatW.PrintWords Go.Proofs.YteoebfiacnploaaGreatW.PrintLast Go.Proofs.YteoebfiacnploaaGreatW.PrintMore
attribute [local go_sem] max2_int min2_int max_two min_two max_three min_three max_four min_four   -- for this text's walks alone
set_option linter.unusedVariables false
set_option linter.unusedSimpArgs false
/-! ### pack_Read: function 45 -/
def pack_Read.f (a0 : ByteArray) : Option (ByteArray × Int × Int) := some (a0, 0, 0)
set_option maxHeartbeats 8000000 in
set_option maxRecDepth 100000 in
theorem pack_Read.calls (a0 : ByteArray) (r1 : ByteArray) (r2 : Int) (r3 : Int) (w0 w : World) (hB : Below w0.heap.size w0 w) (h : pack_Read.f a0 = some (r1, r2, r3)) :
    Calls Tryz.prog 45 #[.string a0] w fun e w' => ∃ g_ : Nat, e = .returned (.pointer (some ⟨g_, 0, none⟩)) ∧ IsS124 w0 w' g_ r1 r2 r3 ∧ Below w0.heap.size w0 w' ∧ Below w.heap.size w w' := by
  have hu124 := Tryz.underlying124; have HBW := Aside0.mk (Below.refl w.heap.size w); have HW0 := Aside0.mk hB.size; have HB := Aside0.mk hB; clear hB
  have H : (some (a0, 0, 0)) = some (r1, r2, r3) := h
  clear h
  simp only [Option.some.injEq, Prod.mk.injEq] at H
  obtain ⟨rfl, rfl, rfl⟩ := H
  go_enter Tryz.func45, Tryz.ntmps45
  go_wp2_with (first | ((with_reducible refine gate_dst (N := 5) rfl ?_); refine box_event ?hg (N := 5) ?hd (cs := #[.string a0, .int .i64 0, .int .i64 0]) (t := 124) ?hr ?_; (case hd => rfl); (case hg => rfl); (case hr => first | (go_simp; done) | (go_simp; rfl)); intro gb101 hg w2 hbox hb; have n0_ := Aside0.mk (below_step HBW.out hb); have n1_ := Aside0.mk (below_step (by repeat (first | (with_reducible first | exact HB.out | apply below_alloc | apply pw_below_drewN | apply below_drew1) | exact HB.out)) hb); have n2_ := Aside0.mk (hbox); have n3_ := Aside0.mk ((by rw [hg]; exact (below_size (by repeat (first | (with_reducible first | exact HBW.out | apply below_alloc | apply pw_below_drewN | apply below_drew1) | exact HBW.out))) : w.heap.size ≤ gb101)); have n4_ := Aside0.mk ((Nat.le_trans HW0.out (by rw [hg]; exact (below_size (by repeat (first | (with_reducible first | exact HBW.out | apply below_alloc | apply pw_below_drewN | apply below_drew1) | exact HBW.out))) : w.heap.size ≤ gb101) : w0.heap.size ≤ gb101)); clear HBW; clear HB; have HBW := n0_; have HB := n1_; have BK101 := n2_; have GW101 := n3_; have GE101 := n4_; clear n0_ n1_ n2_ n3_ n4_; clear hb hbox hg))
  go_ret
  exact ⟨_, rfl, (show IsS124 w0 _ gb101 a0 0 0 from ⟨by (with_reducible repeat (first | refine blk_drewN ?_ _ | refine blk_drew ?_ | refine blk_alloc ?_ _)); exact BK101.out, GE101.out⟩), by repeat (first | (with_reducible first | exact HB.out | apply below_alloc | apply pw_below_drewN | apply below_drew1 | refine below_set ?_ GE101.out) | exact HB.out), by repeat (first | (with_reducible first | exact HBW.out | apply below_alloc | apply pw_below_drewN | apply below_drew1 | refine below_set ?_ GW101.out) | exact HBW.out)⟩

end Go.Proofs.YteoebfiacnploaaGreat.HRec
namespace Go.Proofs.YteoebfiacnploaaGreat.HRec
open Go.RowKit Go.Proofs.YteoebfiacnploaaGreat.HRec Go.Proofs.YteoebfiacnploaaGreatW.PrintWords Go.Proofs.YteoebfiacnploaaGreatW.PrintLast Go.Proofs.YteoebfiacnploaaGreatW.PrintMore
attribute [local go_sem] max2_int min2_int max_two min_two max_three min_three max_four min_four   -- for this text's walks alone
set_option linter.unusedVariables false
set_option linter.unusedSimpArgs false
attribute [local go_sem high] eqA36
/-! ### sum_half: function 112 -/
def sum_half.l0 : Nat → Int → Int → Option (Int)
  | 0, _, _ => none
  | k + 1, x0, x3 => if x3 < 4 then (if (Go.bits .and .u32 x0 1) = 1 then (sum_half.l0 k (Go.bits .xor .u32 (x0 / 2) 2197175160) (wrap64 (x3 + 1))) else (sum_half.l0 k (x0 / 2) (wrap64 (x3 + 1)))) else (some x0)
def sum_half.f (k : Nat) (a0 : Int) : Option (Int) := sum_half.l0 k a0 0
theorem sum_half.mono_l : ∀ k, (∀ y0 y1, LeO (sum_half.l0 k y0 y1) (sum_half.l0 (k + 1) y0 y1))
  | 0 => fun _ _ r h => by simp [sum_half.l0] at h
  | k + 1 => by
    have ih0 := sum_half.mono_l k
    · intro y0 y1
      unfold sum_half.l0
      repeat' first
      | (with_reducible exact ih0 _ _)
      | (with_reducible exact LeO.refl _)
      | (with_reducible exact LeO.none _)
      | (with_reducible refine LeO.ite ?_ ?_)
      | (with_reducible refine LeO.bind ?_ (fun _ => ?_))
      | exact ih0 _ _
      | exact LeO.none _
      | refine LeO.ite ?_ ?_
      | refine LeO.bind ?_ (fun _ => ?_)
theorem sum_half.mono : ∀ a0 k, LeO (sum_half.f k a0) (sum_half.f (k + 1) a0) := by
  intro a0 k
  have ih0 := sum_half.mono_l k
  unfold sum_half.f
  repeat' first
      | (with_reducible exact ih0 _ _)
      | (with_reducible exact LeO.refl _)
      | (with_reducible exact LeO.none _)
      | (with_reducible refine LeO.ite ?_ ?_)
      | (with_reducible refine LeO.bind ?_ (fun _ => ?_))
      | exact ih0 _ _
      | exact LeO.none _
      | refine LeO.ite ?_ ?_
      | refine LeO.bind ?_ (fun _ => ?_)
set_option maxHeartbeats 8000000 in
set_option maxRecDepth 100000 in
theorem sum_half.calls (k : Nat) (a0 : Int) (r : Int) (w : World) (h : sum_half.f k a0 = some r) :
    Calls Tryz.prog 112 #[.int .u32 a0] w fun e w' => e = .returned (.int .u32 r) ∧ Drawn0 w w' := by
  have H : (sum_half.l0 k a0 0) = some r := h
  clear h
  have H' := Aside0.mk H
  clear H
  go_enter Tryz.func112, Tryz.ntmps112
  go_wp2
  go_loopg [0, 3] k (fun kq v0 v3 w' => ∃ (x0_1 : Int) (x3_1 : Int), v0 = .int .u32 x0_1 ∧ v3 = .int .i64 x3_1 ∧ Aside0 (sum_half.l0 kq x0_1 x3_1 = some r) ∧ Aside0 (kq ≤ k) ∧ Drawn0 w w')
  case atStart => exact ⟨(a0), (0), (by first | rfl | (simp; done) | (simp [*]; done)), (by first | rfl | (simp; done) | (simp [*]; done)), H', ⟨Nat.le_refl _⟩, by repeat (first | exact Drawn0.refl _ | apply Drawn0.step)⟩
  case round =>
    clear H'
    (try clear c1)
    obtain ⟨x0_1, x3_1, rfl, rfl, HA, HK1, ⟨m1, rfl⟩⟩ := hrel
    cases gk with
    | zero => exact absurd HA.out (by simp [sum_half.l0])
    | succ k1 =>
      have H := HA.out; clear HA
      simp only [sum_half.l0] at H
      by_cases c2 : x3_1 < 4
      · rw [if_pos c2] at H
        have c2b0 : decide (x3_1 < 4) = true := decide_eq_true c2
        clear c2
        by_cases c3 : (Go.bits .and .u32 x0_1 1) = 1
        · rw [if_pos c3] at H
          have c3b0 : ((Go.bits .and .u32 x0_1 1) == 1) = true := beq_iff_eq.mpr c3
          have c3b1 : ((Go.bits .and .u32 x0_1 1) != 1) = false := bne_eq_false_iff_eq.mpr c3
          clear c3
          have H' := Aside0.mk H
          clear H
          go_wp2
          go_roundg k1
          case measure => have := HK1.out; omega
          case rel => exact ⟨(Go.bits .xor .u32 (x0_1 / 2) 2197175160), (wrap64 (x3_1 + 1)), (by first | rfl | (simp; done) | (simp [*]; done)), (by first | rfl | (simp; done) | (simp [*]; done)), H', ⟨by have := HK1.out; omega⟩, by repeat (first | exact Drawn0.refl _ | apply Drawn0.step)⟩
        · rw [if_neg c3] at H
          have c3b0 : ((Go.bits .and .u32 x0_1 1) == 1) = false := beq_eq_false_iff_ne.mpr c3
          have c3b1 : ((Go.bits .and .u32 x0_1 1) != 1) = true := bne_iff_ne.mpr c3
          have H' := Aside0.mk H
          clear H
          go_wp2
          go_roundg k1
          case measure => have := HK1.out; omega
          case rel => exact ⟨(x0_1 / 2), (wrap64 (x3_1 + 1)), (by first | rfl | (simp; done) | (simp [*]; done)), (by first | rfl | (simp; done) | (simp [*]; done)), H', ⟨by have := HK1.out; omega⟩, by repeat (first | exact Drawn0.refl _ | apply Drawn0.step)⟩
      · rw [if_neg c2] at H
        have c2b0 : decide (x3_1 < 4) = false := decide_eq_false c2
        clear c2
        obtain rfl := Option.some.inj H
        go_wp2
        go_ret
        exact ⟨by first | rfl | (simp; done) | (simp [*]; done), by repeat (first | exact Drawn0.refl _ | apply Drawn0.step)⟩

end Go.Proofs.YteoebfiacnploaaGreat.HRec
