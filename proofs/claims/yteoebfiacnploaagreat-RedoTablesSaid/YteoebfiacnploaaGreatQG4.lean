/- Texts of this proof, put together: DiskC, DiskD, WalA, FpackRead. They prove no statement. -/
import Derived.Test.YteoebfiacnploaaGreatQG3
import Derived.LoopN
import Derived.Test.YteoebfiacnploaaGreatQFtypes
import Derived.BigRegion
namespace Go.Proofs.YteoebfiacnploaaGreat.HRec
open Go.RowKit Go.Proofs.YteoebfiacnploaaGreatW.PrintWords Go.Proofs.YteoebfiacnploaaGreatW.PrintLast Go.Proofs.YteoebfiacnploaaGreatW.PrintMore
open Go.ChangeMaps (setBlock)
set_option linter.unusedVariables false
set_option linter.unusedSimpArgs false
def disk_Write.T9 : Bool × List (List Nat × List Nat) := (true, [([], []), ([0], [0]), ([1], [1]), ([2], [2]), ([], []), ([], []), ([5], [5]), ([3, 4, 6, 6, 0, 1, 2, 3, 4, 5, 6], [3, 4, 6])])
def disk_Write.B9 : List Nat := [0, 1, 3, 7, 0, 0, 32, 127]
theorem disk_Write.tab9 : rtab .any (opsOf Tryz.f72 9) = disk_Write.T9 := by kernel_rfl
theorem disk_Write.bits9 : waitsOk disk_Write.T9.2 disk_Write.B9 = true := by kernel_rfl
theorem rd_empty (n : Nat) (i : Int) : rdOf ByteArray.empty (List.replicate n (⟨#[]⟩ : ByteArray)) i = ⟨#[]⟩ := by
  unfold rdOf
  rw [List.getD_eq_getElem?_getD, List.getElem?_replicate]
  split <;> rfl
theorem block_other {W : World} {b k : Nat} (o : Obj) (h : k ≠ b) : (setBlock W b o).heap[k]? = W.heap[k]? := by
  show (W.heap.setIfInBounds b o)[k]? = W.heap[k]?
  rw [Array.getElem?_setIfInBounds_ne (fun e => h e.symm)]
theorem block_same {W : World} {b : Nat} (o : Obj) (h : b < W.heap.size) : (setBlock W b o).heap[b]? = some o := by
  show (W.heap.setIfInBounds b o)[b]? = some o
  rw [Array.getElem?_setIfInBounds_self_of_lt h]
theorem block_size {W : World} {b : Nat} (o : Obj) : (setBlock W b o).heap.size = W.heap.size := by
  show (W.heap.setIfInBounds b o).size = _
  simp
theorem block_below {w0 W : World} {b : Nat} (o : Obj) (h : Below w0.heap.size w0 W) (hb : w0.heap.size ≤ b) : Below w0.heap.size w0 (setBlock W b o) :=
  ⟨h.os, h.tape, h.output, by rw [block_size]; exact h.size, fun k hk => (block_other o (by omega)).trans (h.block k hk)⟩
set_option maxHeartbeats 8000000 in
set_option maxRecDepth 100000 in
theorem disk_Read (d m : Nat) (A : Option Addr) (c cl : Nat) (acts i : Int) (w : World) (h : IsDisk w d m A 200 c acts) (hm : w.heap[m]? = some (.map #[] cl)) (hr : Kd.string.C w A 200 (List.replicate 200 (⟨#[]⟩ : ByteArray))) (h0 : 0 ≤ i) (h1 : i < 200) :
    Calls Tryz.prog 44 #[.pointer (some ⟨d, 0, none⟩), .int .i64 i] w fun e w' => e = .returned (.tuple #[.string (wholeB ⟨#[]⟩), .int .i64 0]) ∧ Below w.heap.size w w' := by
  have c0 := IsDisk.at_0 h; have c1 := IsDisk.at_1 h; have hl := run_look0 hm i h0 (by omega)
  obtain ⟨ad, rfl, x0⟩ := Kd.at_string hr i h0 h1
  rw [rd_empty] at x0
  have HC := Aside0.mk (disk_check d m (some ad) 200 c acts i w h h0 (by omega))
  have HW := Aside0.mk (disk_whole ⟨#[]⟩ w (by decide))
  clear hr hm h
  go_enter Tryz.func44, Tryz.ntmps44
  go_wp2_with fail
  refine HC.out.mono ?_
  rintro e w1 ⟨rfl, hw⟩
  rw [hw]
  clear hw w1 HC
  go_wp2_with fail
  refine HW.out.mono ?_
  rintro e w1 ⟨rfl, hb⟩
  have HB := Aside0.mk hb; clear hb HW
  go_wp2_with fail
  go_ret2
  exact ⟨rfl, HB.out⟩
theorem KeepX.below {g h : Nat} {w W W1 : World} (hk : KeepX g h w W) (hb : Below W.heap.size W W1) : KeepX g h w W1 := ⟨Nat.le_trans hk.1 hb.size, fun i hi hg hh => (hb.block i (Nat.lt_of_lt_of_le hi hk.1)).trans (hk.2 i hi hg hh)⟩
theorem KeepX.block {g h : Nat} {w W : World} (o : Obj) (hk : KeepX g h w W) : KeepX g h w (setBlock W h o) := ⟨by rw [block_size]; exact hk.1, fun i hi hg hh => (block_other o hh).trans (hk.2 i hi hg hh)⟩
set_option maxHeartbeats 8000000 in
set_option maxRecDepth 100000 in
theorem disk_Write (d m : Nat) (A : Option Addr) (c : Nat) (acts i : Int) (s : ByteArray) (w0 w : World) (h : IsDisk w d m A 200 c acts) (hm : w.heap[m]? = some (.map #[] 0)) (hdm : m ≠ d) (hB : Below w0.heap.size w0 w) (hd0 : w0.heap.size ≤ d) (hm0 : w0.heap.size ≤ m) (h0 : 0 ≤ i) (h1 : i < 200) (ha0 : 0 ≤ acts) (ha1 : acts ≤ 1000000) (hs : s.size ≤ 64) :
    Calls Tryz.prog 72 #[.pointer (some ⟨d, 0, none⟩), .int .i64 i, .string s] w fun e w' => e = .returned (.int .i64 0) ∧ IsDisk w' d m A 200 c (acts + 1) ∧ w'.heap[m]? = some (.map #[⟨.int .i64 i, .string (wholeB s), 0⟩] 1) ∧ Below w0.heap.size w0 w' ∧ KeepX d m w w' := by
  have HC := Aside0.mk (disk_check d m A 200 c acts i w h h0 (by omega)); have HA := Aside0.mk (disk_act d m A 200 c acts w0 w h hB hd0 ha0 ha1); have HMW := Aside0.mk hm; have HS := Aside0.mk hs; have HG := Aside0.mk hm0
  have b0 : decide ((64 : Int) < (s.size : Int)) = false := decide_eq_false (by omega)
  have hlt : m < w.heap.size := (Array.getElem?_eq_some_iff.1 hm).1
  clear h hB hm hs hm0
  go_enter Tryz.func72, Tryz.ntmps72
  go_wp2_with fail
  refine HC.out.mono ?_
  rintro e w1 ⟨rfl, hw⟩
  rw [hw]
  clear hw w1 HC
  go_wp2_with fail
  refine HA.out.mono ?_
  rintro e W1 ⟨rfl, hd1, hb1, hk1⟩
  have HD := Aside0.mk hd1; have HB := Aside0.mk hb1; have HM := Aside0.mk ((hk1.2 m hlt hdm (by simp)).trans HMW.out)
  have HK : Aside0 (KeepX d m w W1) := ⟨hk1.1, fun i hi hg hh => hk1.2 i hi hg (by simp)⟩
  clear hd1 hb1 hk1 HA HMW
  go_wp2_with fail
  refine start_ (n := 8) (S := fun w' => Below W1.drew.heap.size W1.drew w') (ds := [7]) #[false, false, false, false, false, false, false, false] (by kernel_rfl) rfl rfl (Below.refl _ _) (fun hHeld => ?_); refine with_tabW disk_Write.tab9 disk_Write.bits9 (fun HT_ HW_ => ?_)
  have HD2 : Aside0 (IsDisk W1.drew d m A 200 c (acts + 1)) := ⟨HD.out⟩
  have HM2 : Aside0 (W1.drew.heap[m]? = some (.map #[] 0)) := ⟨HM.out⟩
  have HB2 := Aside0.mk (below_drew HB.out)
  have HK2 : Aside0 (KeepX d m w W1.drew) := ⟨HK.out⟩
  have f1_ := Aside0.mk (IsDisk.at_1 HD2.out); clear HD HM HB HK
  generalize W1.drew = W0 at HD2 HM2 HB2 HK2 f1_ hHeld ⊢
  refine pure_ (i := 0) (N := some 23) (v := ?_) (a' := ?_) #[true, false, false, false, false, false, false, false] rfl rfl (any_of HT_.out (by kernel_rfl)) (fun _ _ _ h => h) (Or.inl ⟨by rfl, ?_⟩) ?_ ?_
  rotate_left
  · intro w'
    go_simp
    with_reducible rfl
  rotate_left
  · simp only [Act.put, List.setIfInBounds_toArray, List.set_cons_zero, List.set_cons_succ, i64_w, i32_w]
    rfl
  refine pure_ (i := 1) (N := some 24) (v := ?_) (a' := ?_) #[true, true, false, false, false, false, false, false] rfl rfl (any_of HT_.out (by kernel_rfl)) (fun _ _ _ h => h) (Or.inl ⟨by rfl, ?_⟩) ?_ ?_
  rotate_left
  · intro w'
    go_simp
    with_reducible rfl
  rotate_left
  · simp only [Act.put, List.setIfInBounds_toArray, List.set_cons_zero, List.set_cons_succ, i64_w, i32_w]
    rfl
  refine pure_ (i := 2) (N := some 25) (v := ?_) (a' := ?_) #[true, true, true, false, false, false, false, false] rfl rfl (any_of HT_.out (by kernel_rfl)) (fun _ _ _ h => h) (Or.inl ⟨by rfl, ?_⟩) ?_ ?_
  rotate_left
  · intro w'
    go_simp
    with_reducible rfl
  rotate_left
  · simp only [Act.put, List.setIfInBounds_toArray, List.set_cons_zero, List.set_cons_succ, i64_w, i32_w]
    rfl
  refine take_ (i := 3) (N := some 26) (v := ?_) (a' := ?_) #[true, true, true, true, false, false, false, false] rfl rfl (take_ofW HT_.out HW_.out (by kernel_rfl)) (fun _ _ _ h => h) (Or.inl ⟨by rfl, ?_⟩) hHeld ?_ ?_
  rotate_left
  · intro w' hs
    have s1 := below_cell hs f1_.out
    go_simp
    with_reducible rfl
  rotate_left
  · simp only [Act.put, List.setIfInBounds_toArray, List.set_cons_zero, List.set_cons_succ, i64_w, i32_w]
    rfl
  refine pure_ (i := 4) (N := some 27) (v := ?_) (a' := ?_) #[true, true, true, true, true, false, false, false] rfl rfl (any_of HT_.out (by kernel_rfl)) (fun _ _ _ h => h) (Or.inl ⟨by rfl, ?_⟩) ?_ ?_
  rotate_left
  · intro w'
    go_simp
    with_reducible rfl
  rotate_left
  · simp only [Act.put, List.setIfInBounds_toArray, List.set_cons_zero, List.set_cons_succ, i64_w, i32_w]
    rfl
  refine pure_ (i := 5) (N := some 28) (v := ?_) (a' := ?_) #[true, true, true, true, true, true, false, false] rfl rfl (any_of HT_.out (by kernel_rfl)) (fun _ _ _ h => h) (Or.inl ⟨by rfl, ?_⟩) ?_ ?_
  rotate_left
  · intro w'
    go_simp
    with_reducible rfl
  rotate_left
  · simp only [Act.put, List.setIfInBounds_toArray, List.set_cons_zero, List.set_cons_succ, i64_w, i32_w]
    rfl
  refine one_ (i := 6) (N := some 29) #[true, true, true, true, true, true, true, false] rfl rfl (one_of HT_.out (by kernel_rfl)) (by decide) (fun K hK => ?_)
  refine goes_ Tryz.func68 (by kernel_rfl) rfl #[.string s] (by rfl) rfl rfl (by (try simp only [List.map_toArray, List.map_cons, List.map_nil]); rfl) ?_
  refine (disk_whole s W0 HS.out).mono ?_
  rintro e w3 ⟨rfl, hb⟩
  refine ⟨_, rfl, ?_⟩
  refine hK.out _ _ hb (fun hHeld2 => ?_)
  clear hK K; have HD3 := Aside0.mk (IsDisk.below HD2.out hb)
  have HM3 := Aside0.mk ((hb.block m (Array.getElem?_eq_some_iff.1 HM2.out).1).trans HM2.out)
  have HB3 := Aside0.mk (below_step HB2.out hb); have HK3 := Aside0.mk (KeepX.below HK2.out hb); clear hb hHeld2 hHeld HD2 HM2 HB2 HK2
  refine norm_ (a' := ?_) ?_ ?_
  rotate_left
  · simp only [Act.put, List.setIfInBounds_toArray, List.set_cons_zero, List.set_cons_succ]
    rfl
  refine last_ (i := 7) (N := none) #[true, true, true, true, true, true, true, true] rfl rfl (one_of HT_.out (by kernel_rfl)) (by decide) (fun K hK => ?_)
  have hp := run_put0 HM3.out i h0 (by omega) (.string (wholeB s))
  with_reducible refine store_step (w1 := setBlock w3 m (.map #[⟨.int .i64 i, .string (wholeB s), 0⟩] 1)) ?hw ?hd ?hr ?_
  case hw => rfl
  case hd => rfl
  case hr => first | (go_simp; done) | (go_simp; rfl)
  refine hK.out _ _ ?_
  clear hK K hp
  refine done_ (done_of HT_.out (by kernel_rfl)) ?_
  have HM4 := Aside0.mk (block_same (W := w3) (.map #[⟨.int .i64 i, .string (wholeB s), 0⟩] 1) (Array.getElem?_eq_some_iff.1 HM3.out).1)
  have HD4 : Aside0 (IsDisk (setBlock w3 m (.map #[⟨.int .i64 i, .string (wholeB s), 0⟩] 1)) d m A 200 c (acts + 1)) := ⟨(block_other _ (fun e => hdm e.symm)).trans HD3.out⟩
  have HB4 := Aside0.mk (block_below (.map #[⟨.int .i64 i, .string (wholeB s), 0⟩] 1) HB3.out HG.out)
  have HK4 := Aside0.mk (KeepX.block (.map #[⟨.int .i64 i, .string (wholeB s), 0⟩] 1) HK3.out)
  clear HD3 HM3 HB3 HK3
  generalize setBlock w3 m (.map #[⟨.int .i64 i, .string (wholeB s), 0⟩] 1) = W4 at HM4 HD4 HB4 HK4 ⊢
  go_wp2_with fail
  go_ret
  exact ⟨rfl, HD4.out, HM4.out, HB4.out, HK4.out⟩
end Go.Proofs.YteoebfiacnploaaGreat.HRec
namespace Go.Proofs.YteoebfiacnploaaGreat.HRec
open Go.RowKit Go.Proofs.YteoebfiacnploaaGreatW.PrintWords Go.Proofs.YteoebfiacnploaaGreatW.PrintLast Go.Proofs.YteoebfiacnploaaGreatW.PrintMore
open Go.ChangeMaps (setBlock)
set_option linter.unusedVariables false
set_option linter.unusedSimpArgs false
theorem next_one {W : World} {r m : Nat} {k v : Value} (hr : W.heap[r]? = some (.mapIter (some m) 1 #[] 1)) (hm : W.heap[m]? = some (.map #[⟨k, v, 0⟩] 1)) : ∃ W3 : World, (Instr.next (.pointer (some ⟨r, 0, none⟩)) false 0).run Tryz.prog W = .ok (.tuple #[.bool true, k, v]) W3 ∧ W3.heap[r]? = some (.mapIter (some m) 1 #[0] 1) ∧ (∀ j, j ≠ r → W3.heap[j]? = W.heap[j]?) ∧ W3.heap.size = W.heap.size ∧ ∀ w0 : World, Below w0.heap.size w0 W → w0.heap.size ≤ r → Below w0.heap.size w0 W3 := by
  obtain ⟨w1, hal, hrun⟩ := run_next1 0 hr hm
  have hlt : r < W.heap.size := (Array.getElem?_eq_some_iff.1 hr).1
  rcases hal with rfl | rfl
  · exact ⟨_, hrun, block_same _ hlt, fun j hj => block_other _ hj, block_size _, fun w0 hb hle => block_below _ hb hle⟩
  · exact ⟨_, hrun, block_same (W := W.drew) _ hlt, fun j hj => block_other (W := W.drew) _ hj, block_size (W := W.drew) _, fun w0 hb hle => block_below (W := W.drew) _ (below_drew hb) hle⟩
set_option maxHeartbeats 8000000 in
set_option maxRecDepth 100000 in
theorem disk_Sync (d m : Nat) (A : Option Addr) (c : Nat) (acts i : Int) (v : ByteArray) (xs : List ByteArray) (w0 w : World) (h : IsDisk w d m A 200 c acts) (hm : w.heap[m]? = some (.map #[⟨.int .i64 i, .string v, 0⟩] 1)) (hr : Kd.R Kd.string 9 w w0.heap.size (fun k => k < m) (.slice A 200 c) xs) (hmd : m < d) (hB : Below w0.heap.size w0 w) (hm0 : w0.heap.size ≤ m) (h0 : 0 ≤ i) (h1 : i < 200) (ha0 : 0 ≤ acts) (ha1 : acts ≤ 1000000) :
    Calls Tryz.prog 52 #[.pointer (some ⟨d, 0, none⟩)] w fun e w' => e = .returned (.int .i64 0) ∧ Below w0.heap.size w0 w' ∧ ∀ k, d < k → k < w.heap.size → w'.heap[k]? = w.heap[k]? := by
  have HC := Aside0.mk (disk_check d m A 200 c acts 0 w h (by omega) (by omega)); have HA := Aside0.mk (disk_act d m A 200 c acts w0 w h hB (by omega) ha0 ha1); have HMW := Aside0.mk hm
  have hlt : m < w.heap.size := (Array.getElem?_eq_some_iff.1 hm).1
  have hl := (Kd.R_reads' hr).1
  obtain ⟨g, cap, ef, hg0, hg1, _⟩ := Kd.R_form hr (by omega)
  injection ef with e1 e2 e3
  subst e1
  subst e3
  have hgm : g < m := hr.1 g rfl
  have HR := Aside0.mk hr; have HG0 := Aside0.mk hg0; have HM0 := Aside0.mk hm0; have HMD := Aside0.mk hmd; clear h hB hm hr hg0 e2
  go_enter Tryz.func52, Tryz.ntmps52
  go_wp2_with fail
  refine HC.out.mono ?_
  rintro e w1 ⟨rfl, hw⟩
  rw [hw]
  clear hw w1 HC
  go_wp2_with fail
  refine HA.out.mono ?_
  rintro e W1 ⟨rfl, hd1, hb1, hk1⟩
  have HR1 := Aside0.mk (Kd.R_step HR.out (fun k ho hk => hk1.2 k hk (by omega) (by simp)))
  have hm1 := (hk1.2 m hlt (by omega) (by simp)).trans HMW.out
  have HK1 : Aside0 (∀ k, d < k → k < w.heap.size → W1.heap[k]? = w.heap[k]?) := ⟨fun k hk hk2 => hk1.2 k hk2 (by omega) (by simp)⟩
  have hsz1 : w.heap.size ≤ W1.heap.size := hk1.1
  have hrg := run_range1 hm1
  have hdl : d < W1.heap.size := (Array.getElem?_eq_some_iff.1 hd1).1
  have D2 := Aside0.mk (IsDisk.below hd1 (below_alloc (Below.refl _ _) (.mapIter (some m) 1 #[] 1)))
  have hm2 : (W1.alloc (.mapIter (some m) 1 #[] 1)).heap[m]? = some (.map #[⟨.int .i64 i, .string v, 0⟩] 1) := (Below.heap_alloc _ _ m (by omega)).trans hm1
  have hi2 : (W1.alloc (.mapIter (some m) 1 #[] 1)).heap[W1.heap.size]? = some (.mapIter (some m) 1 #[] 1) := heap_alloc_new W1 _
  have B2 := Aside0.mk (below_alloc hb1 (.mapIter (some m) 1 #[] 1))
  have K2 : Aside0 (∀ k, d < k → k < w.heap.size → (W1.alloc (.mapIter (some m) 1 #[] 1)).heap[k]? = w.heap[k]?) := ⟨fun k hk hk2 => (Below.heap_alloc _ _ k (by omega)).trans (HK1.out k hk hk2)⟩
  have R2 := Aside0.mk (Kd.R_alloc HR1.out (.mapIter (some m) 1 #[] 1))
  have HBr := Aside0.mk (Nat.le_trans HM0.out (Nat.le_of_lt (Nat.lt_trans HMD.out hdl)))
  have hne1 : m ≠ W1.heap.size := by omega
  have hne2 : d ≠ W1.heap.size := by omega
  have hne3 : g ≠ W1.heap.size := by omega
  have c1 := IsDisk.at_1 hd1
  have hrs : w.heap.size ≤ W1.heap.size := hsz1
  clear hk1 hd1 hb1 hm1 HR1 HK1 HA HMW HR
  generalize W1.alloc (.mapIter (some m) 1 #[] 1) = W2 at hrg D2 hm2 hi2 B2 K2 R2
  obtain ⟨W3, hn1, hi3, ho3, hs3, hb3⟩ := next_one hi2 hm2
  have D3 : Aside0 (IsDisk W3 d m (some ⟨g, 0, none⟩) 200 c (acts + 1)) := ⟨(ho3 d hne2).trans D2.out⟩
  have hm3 := (ho3 m hne1).trans hm2; have B3 := Aside0.mk (hb3 w0 B2.out HBr.out)
  have K3 : Aside0 (∀ k, d < k → k < w.heap.size → W3.heap[k]? = w.heap[k]?) := ⟨fun k hk hk2 => (ho3 k (by omega)).trans (K2.out k hk hk2)⟩
  have R3 := Aside0.mk (Kd.R_step R2.out (fun k ho hk => ho3 k (by omega)))
  have hen := run_entry1 hi3 hm3; have c30 := IsDisk.at_0 D3.out
  obtain ⟨x3, f3⟩ := Kd.R_celln ByteArray.empty R3.out i h0 h1
  have hi4 : (W3.setCell ⟨g, i.toNat, none⟩ (.string v)).heap[W1.heap.size]? = some (.mapIter (some m) 1 #[0] 1) := (Below.heap_setCell _ _ _ _ (by show _ ≠ g; omega)).trans hi3
  have hm4 : (W3.setCell ⟨g, i.toNat, none⟩ (.string v)).heap[m]? = some (.map #[⟨.int .i64 i, .string v, 0⟩] 1) := (Below.heap_setCell _ _ _ _ (by show _ ≠ g; omega)).trans hm3
  have D4 : Aside0 (IsDisk (W3.setCell ⟨g, i.toNat, none⟩ (.string v)) d m (some ⟨g, 0, none⟩) 200 c (acts + 1)) := ⟨(Below.heap_setCell _ _ _ _ (by show _ ≠ g; omega)).trans D3.out⟩
  have B4 := Aside0.mk (below_set (j := i.toNat) (v := .string v) B3.out HG0.out)
  have K4 : Aside0 (∀ k, d < k → k < w.heap.size → (W3.setCell ⟨g, i.toNat, none⟩ (.string v)).heap[k]? = w.heap[k]?) := ⟨fun k hk hk2 => (Below.heap_setCell _ _ _ _ (by show _ ≠ g; omega)).trans (K3.out k hk hk2)⟩
  have hn2 := run_next0 0 hi4 hm4; have c41 := IsDisk.at_1 D4.out; have hcl := run_clear1 hm4
  have B5 := Aside0.mk (block_below (.map #[] 1) B4.out HM0.out)
  have K5 : Aside0 (∀ k, d < k → k < w.heap.size → (setBlock (W3.setCell ⟨g, i.toNat, none⟩ (.string v)) m (.map #[] 1)).heap[k]? = w.heap[k]?) := ⟨fun k hk hk2 => (block_other _ (by omega)).trans (K4.out k hk hk2)⟩
  clear hi2 hm2 ho3 hb3 hi3 hm3 hi4 hm4 D2 B2 K2 R2 D3 B3 K3 R3 D4 B4 K4
  have hu : (i < (200 : Int)) := h1
  go_wp2_with fail
  refine wp_loop_rounds 2 ?_
  rw [rounds_succ]
  go_wp2_with fail
  rw [rounds_succ]
  go_wp2_with fail
  go_ret
  exact ⟨rfl, B5.out, K5.out⟩
end Go.Proofs.YteoebfiacnploaaGreat.HRec
namespace Go.Proofs.YteoebfiacnploaaGreat.HRec
open Go.RowKit Go.Proofs.YteoebfiacnploaaGreatW.PrintWords Go.Proofs.YteoebfiacnploaaGreatW.PrintLast Go.Proofs.YteoebfiacnploaaGreatW.PrintMore
set_option linter.unusedVariables false
set_option linter.unusedSimpArgs false
/-- A log at block L: its disk, where it begins, how many sectors, its run, its bytes, how many last; it is not dead. -/
def IsLog (W : World) (L d : Nat) (base sectors run : Int) (all : ByteArray) (dur : Int) : Prop :=
  W.heap[L]? = some (.cells #[.pointer (some ⟨d, 0, none⟩), .int .i64 base, .int .i64 sectors, .int .i64 run, .string all, .int .i64 dur, .bool false] 59 (0, 0))
section
variable {W W1 : World} {L d : Nat} {base sectors run : Int} {all : ByteArray} {dur : Int}
theorem IsLog.below (h : IsLog W L d base sectors run all dur) (hb : Below W.heap.size W W1) : IsLog W1 L d base sectors run all dur := blk_below h hb
theorem IsLog.at_0 (h : IsLog W L d base sectors run all dur) : W.cell? ⟨L, 0, none⟩ = some (.pointer (some ⟨d, 0, none⟩)) := (blk_cell h 0).trans rfl
theorem IsLog.at_2 (h : IsLog W L d base sectors run all dur) : W.cell? ⟨L, 2, none⟩ = some (.int .i64 sectors) := (blk_cell h 2).trans rfl
theorem IsLog.at_4 (h : IsLog W L d base sectors run all dur) : W.cell? ⟨L, 4, none⟩ = some (.string all) := (blk_cell h 4).trans rfl
theorem IsLog.at_6 (h : IsLog W L d base sectors run all dur) : W.cell? ⟨L, 6, none⟩ = some (.bool false) := (blk_cell h 6).trans rfl
theorem IsLog.free (h : IsLog W L d base sectors run all dur) (i : Nat) : W.frozen? ⟨L, i, none⟩ = false := blk_frozen h i
theorem IsLog.set_4 (h : IsLog W L d base sectors run all dur) (s : ByteArray) : IsLog (W.setCell ⟨L, 4, none⟩ (.string s)) L d base sectors run s dur := by unfold IsLog; simpa using blk_set h 4 (.string s)
end
set_option maxHeartbeats 4000000 in
theorem log_none (L d : Nat) (base sectors run : Int) (all : ByteArray) (dur : Int) (w : World) (h : IsLog w L d base sectors run all dur) :
    Calls Tryz.prog 20 #[.pointer (some ⟨L, 0, none⟩)] w fun e w' => e = .returned (.bool false) ∧ w' = w := by
  have c0 := IsLog.at_0 h
  go_enter Tryz.func20, Tryz.ntmps20
  go_wp2_with fail
  go_ret
  exact ⟨rfl, rfl⟩
set_option maxHeartbeats 4000000 in
theorem log_off (L d : Nat) (base sectors run : Int) (all : ByteArray) (dur : Int) (w : World) (h : IsLog w L d base sectors run all dur) :
    Calls Tryz.prog 26 #[.pointer (some ⟨L, 0, none⟩)] w fun e w' => e = .returned (.int .i64 0) ∧ w' = w := by
  have c6 := IsLog.at_6 h; have H := Aside0.mk h
  go_enter Tryz.func26, Tryz.ntmps26
  go_wp2_with fail
  refine (log_none L d base sectors run all dur w H.out).mono ?_
  rintro e w1 ⟨rfl, rfl⟩
  go_wp2_with fail
  go_ret
  exact ⟨rfl, rfl⟩
set_option maxHeartbeats 4000000 in
theorem log_End (L d : Nat) (base sectors run : Int) (all : ByteArray) (dur : Int) (w : World) (h : IsLog w L d base sectors run all dur) (hs : all.size ≤ 1000000) :
    Calls Tryz.prog 35 #[.pointer (some ⟨L, 0, none⟩)] w fun e w' => e = .returned (.int .i64 ((all.size : Int) + 1)) ∧ w' = w := by
  have c4 := IsLog.at_4 h; have H := Aside0.mk h
  have hw : wrap64 ((all.size : Int) + 1) = (all.size : Int) + 1 := by unfold wrap64; omega
  go_enter Tryz.func35, Tryz.ntmps35
  go_wp2_with fail
  refine (log_none L d base sectors run all dur w H.out).mono ?_
  rintro e w1 ⟨rfl, rfl⟩
  go_wp2_with fail
  go_ret
  exact ⟨rfl, rfl⟩
set_option maxHeartbeats 4000000 in
theorem log_Left (L d : Nat) (base run : Int) (all : ByteArray) (dur : Int) (w : World) (h : IsLog w L d base 200 run all dur) (hs : all.size ≤ 1000000) :
    Calls Tryz.prog 42 #[.pointer (some ⟨L, 0, none⟩)] w fun e w' => e = .returned (.int .i64 (11600 - (all.size : Int))) ∧ w' = w.drew := by
  have c4 := IsLog.at_4 h; have c2 := IsLog.at_2 h; have H := Aside0.mk h
  have hw : wrap64 (11600 - (all.size : Int)) = 11600 - (all.size : Int) := by unfold wrap64; omega
  go_enter Tryz.func42, Tryz.ntmps42
  go_wp2_with fail
  refine (log_none L d base 200 run all dur w H.out).mono ?_
  rintro e w1 ⟨rfl, rfl⟩
  go_wp2_with fail
  go_region
  go_wp2_with fail
  go_ret
  exact ⟨by first | rfl | simp [hw], rfl⟩
/-- What is put behind a log's bytes, if it has room. -/
def addF (all s : ByteArray) : ByteArray × Int × Int := if (s.size : Int) > 11600 - (all.size : Int) then (all, 0, 7) else (all ++ s, (all.size : Int) + 1, 0)
set_option maxHeartbeats 4000000 in
theorem log_add (L d : Nat) (base run : Int) (all s : ByteArray) (dur : Int) (w0 w : World) (h : IsLog w L d base 200 run all dur) (hs : all.size ≤ 11600) (hB : Below w0.heap.size w0 w) (hL : w0.heap.size ≤ L) :
    Calls Tryz.prog 28 #[.pointer (some ⟨L, 0, none⟩), .string s] w fun e w' => e = .returned (.tuple #[.int .i64 (addF all s).2.1, .int .i64 (addF all s).2.2]) ∧ IsLog w' L d base 200 run (addF all s).1 dur ∧ Below w0.heap.size w0 w' ∧ KeepBut w w' L none := by
  have H := Aside0.mk h; have HB := Aside0.mk hB; have HK := Aside0.mk (KeepBut.refl w L none); clear hB
  by_cases hz : (s.size : Int) > 11600 - (all.size : Int)
  · have e1 : addF all s = (all, 0, 7) := if_pos hz
    rw [e1]
    have b0 : decide (11600 - (all.size : Int) < (s.size : Int)) = true := decide_eq_true (by omega)
    go_enter Tryz.func28, Tryz.ntmps28
    go_wp2_with fail
    refine (log_Left L d base run all dur w H.out (by omega)).mono ?_
    rintro e w1 ⟨rfl, rfl⟩
    go_wp2_with fail
    go_ret2
    exact ⟨rfl, H.out, below_drew HB.out, keep_drew HK.out⟩
  · have e1 : addF all s = (all ++ s, (all.size : Int) + 1, 0) := if_neg hz
    rw [e1]
    have b0 : decide (11600 - (all.size : Int) < (s.size : Int)) = false := decide_eq_false (by omega)
    go_enter Tryz.func28, Tryz.ntmps28
    go_wp2_with fail
    refine (log_Left L d base run all dur w H.out (by omega)).mono ?_
    rintro e w1 ⟨rfl, rfl⟩
    go_wp2_with fail
    refine (log_End L d base 200 run all dur w.drew H.out (by omega)).mono ?_
    rintro e w1 ⟨rfl, rfl⟩
    have c4 : w.drew.cell? ⟨L, 4, none⟩ = some (.string all) := IsLog.at_4 H.out
    have f4 : w.drew.frozen? ⟨L, 4, none⟩ = false := IsLog.free H.out 4
    have hb1 : all.size + s.size ≤ 9223372036854775807 := by omega
    go_wp2_with fail
    go_ret2
    exact ⟨rfl, IsLog.set_4 (W := w.drew) H.out _, below_set (below_drew HB.out) hL, KeepBut.set_ (keep_drew HK.out) _ _⟩
end Go.Proofs.YteoebfiacnploaaGreat.HRec
namespace Go.Proofs.YteoebfiacnploaaGreat.HRec
open Go.RowKit Go.Proofs.YteoebfiacnploaaGreat.HRec Go.Proofs.YteoebfiacnploaaGreatW.PrintWords Go.Proofs.YteoebfiacnploaaGreatW.PrintLast Go.Proofs.YteoebfiacnploaaGreatW.PrintMore
attribute [local go_sem] max2_int min2_int max_two min_two max_three min_three max_four min_four   -- for this text's walks alone
set_option linter.unusedVariables false
set_option linter.unusedSimpArgs false
/-! ### pack_Read: function 45 -/
def pack_Read.f (a0 : ByteArray) : Option (ByteArray × Int × Int) := some (a0, 0, 0)
set_option maxHeartbeats 8000000 in
set_option maxRecDepth 100000 in
theorem pack_Read.calls (a0 : ByteArray) (r1 : ByteArray) (r2 : Int) (r3 : Int) (w0 w : World) (hB : Below w0.heap.size w0 w) (h : pack_Read.f a0 = some (r1, r2, r3)) :
    Calls Tryz.prog 45 #[.string a0] w fun e w' => ∃ g_ : Nat, e = .returned (.pointer (some ⟨g_, 0, none⟩)) ∧ IsS124 w0 w' g_ r1 r2 r3 ∧ Below w0.heap.size w0 w' ∧ Below w.heap.size w w' := by
  have hu124 := Tryz.underlying124; have HBW := Aside0.mk (Below.refl w.heap.size w); have HW0 := Aside0.mk hB.size; have HB := Aside0.mk hB; clear hB
  have H : (some (a0, 0, 0)) = some (r1, r2, r3) := h
  clear h
  simp only [Option.some.injEq, Prod.mk.injEq] at H
  obtain ⟨rfl, rfl, rfl⟩ := H
  go_enter Tryz.func45, Tryz.ntmps45
  go_wp2_with (first | ((with_reducible refine gate_dst (N := 5) rfl ?_); refine box_event ?hg (N := 5) ?hd (cs := #[.string a0, .int .i64 0, .int .i64 0]) (t := 124) ?hr ?_; (case hd => rfl); (case hg => rfl); (case hr => first | (go_simp; done) | (go_simp; rfl)); intro gb101 hg w2 hbox hb; have n0_ := Aside0.mk (below_step HBW.out hb); have n1_ := Aside0.mk (below_step (by repeat (first | (with_reducible first | exact HB.out | apply below_alloc | apply pw_below_drewN | apply below_drew1) | exact HB.out)) hb); have n2_ := Aside0.mk (hbox); have n3_ := Aside0.mk ((by rw [hg]; exact (below_size (by repeat (first | (with_reducible first | exact HBW.out | apply below_alloc | apply pw_below_drewN | apply below_drew1) | exact HBW.out))) : w.heap.size ≤ gb101)); have n4_ := Aside0.mk ((Nat.le_trans HW0.out (by rw [hg]; exact (below_size (by repeat (first | (with_reducible first | exact HBW.out | apply below_alloc | apply pw_below_drewN | apply below_drew1) | exact HBW.out))) : w.heap.size ≤ gb101) : w0.heap.size ≤ gb101)); clear HBW; clear HB; have HBW := n0_; have HB := n1_; have BK101 := n2_; have GW101 := n3_; have GE101 := n4_; clear n0_ n1_ n2_ n3_ n4_; clear hb hbox hg))
  go_ret
  exact ⟨_, rfl, (show IsS124 w0 _ gb101 a0 0 0 from ⟨by (with_reducible repeat (first | refine blk_drewN ?_ _ | refine blk_drew ?_ | refine blk_alloc ?_ _)); exact BK101.out, GE101.out⟩), by repeat (first | (with_reducible first | exact HB.out | apply below_alloc | apply pw_below_drewN | apply below_drew1 | refine below_set ?_ GE101.out) | exact HB.out), by repeat (first | (with_reducible first | exact HBW.out | apply below_alloc | apply pw_below_drewN | apply below_drew1 | refine below_set ?_ GW101.out) | exact HBW.out)⟩

end Go.Proofs.YteoebfiacnploaaGreat.HRec
