/- Contracts of wal.check, of a log's down, and of its scan of a fresh disk. They prove no statement. -/
import Derived.Test.YteoebfiacnploaaGreatQG4
import Derived.Test.YteoebfiacnploaaGreatQPureTot
namespace Go.Proofs.YteoebfiacnploaaGreat.HRec
open Go.RowKit Go.Proofs.YteoebfiacnploaaGreatW.PrintWords Go.Proofs.YteoebfiacnploaaGreatW.PrintLast Go.Proofs.YteoebfiacnploaaGreatW.PrintMore
open Go.ChangeMaps (setBlock)
set_option linter.unusedVariables false
set_option linter.unusedSimpArgs false
def log_scan.T6 : Bool × List (List Nat × List Nat) := (true, [([], []), ([0], [0]), ([1], [1]), ([2], [2]), ([], []), ([4], [4]), ([5], [5]), ([6], [6]), ([], []), ([7, 8], [7, 8]), ([3, 9], [3, 9]), ([10], [10]), ([11], [11]), ([11], [11]), ([12, 10, 0, 1, 2, 3, 4, 5, 6, 7, 8, 9, 10, 11, 12], [12]), ([13, 14, 0, 1, 2, 3, 4, 5, 6, 7, 8, 9, 10, 11, 12, 13, 14], [13])])
def log_scan.B6 : List Nat := [0, 1, 3, 7, 0, 16, 48, 112, 0, 496, 1023, 2047, 4095, 4095, 8191, 32767]
theorem log_scan.tab6 : rtab .any (opsOf Tryz.f31 6) = log_scan.T6 := by kernel_rfl
theorem log_scan.bits6 : waitsOk log_scan.T6.2 log_scan.B6 = true := by kernel_rfl
set_option maxHeartbeats 8000000 in
set_option maxRecDepth 100000 in
theorem wal_check (d m : Nat) (A : Option Addr) (c : Nat) (acts : Int) (w : World) (h : IsDisk w d m A 200 c acts) :
    Calls Tryz.prog 30 #[.pointer (some ⟨d, 0, none⟩), .int .i64 0, .int .i64 200, .int .i64 1] w fun e w' => e = .returned (.int .i64 0) ∧ w' = w := by
  have HC := Aside0.mk (disk_Size d m A 200 c acts w h (by omega)); clear h
  go_enter Tryz.func30, Tryz.ntmps30
  go_wp2_with fail
  refine HC.out.mono ?_
  rintro e w1 ⟨rfl, hw⟩
  rw [hw]
  clear hw w1
  go_wp2_with fail
  refine HC.out.mono ?_
  rintro e w1 ⟨rfl, hw⟩
  rw [hw]
  clear hw w1
  go_wp2_with fail
  go_ret
  exact ⟨rfl, rfl⟩
set_option maxHeartbeats 8000000 in
set_option maxRecDepth 100000 in
theorem log_down (L : Nat) (w : World) :
    Calls Tryz.prog 51 #[.pointer (some ⟨L, 0, none⟩), .int .i64 0] w fun e w' => e = .returned (.int .i64 0) ∧ w' = w := by
  go_enter Tryz.func51, Tryz.ntmps51
  go_wp2_with fail
  go_ret
  exact ⟨rfl, rfl⟩
theorem IsLog.at_1 {W : World} {L d : Nat} {base sectors run : Int} {all : ByteArray} {dur : Int} (h : IsLog W L d base sectors run all dur) : W.cell? ⟨L, 1, none⟩ = some (.int .i64 base) := (blk_cell h 1).trans rfl
theorem IsLog.at_3 {W : World} {L d : Nat} {base sectors run : Int} {all : ByteArray} {dur : Int} (h : IsLog W L d base sectors run all dur) : W.cell? ⟨L, 3, none⟩ = some (.int .i64 run) := (blk_cell h 3).trans rfl
theorem IsLog.at_5 {W : World} {L d : Nat} {base sectors run : Int} {all : ByteArray} {dur : Int} (h : IsLog W L d base sectors run all dur) : W.cell? ⟨L, 5, none⟩ = some (.int .i64 dur) := (blk_cell h 5).trans rfl
/-- The first number of a sector of noughts is 0. -/
theorem num_nought : pack_Reader_Num.f (wholeB ⟨#[]⟩) 0 0 4 = some (0, wholeB ⟨#[]⟩, 4, 0) := by kernel_rfl
theorem disk_ReadZ (Z : ByteArray) (hZ : Z = wholeB ⟨#[]⟩) (d m : Nat) (A : Option Addr) (c : Nat) (acts i : Int) (w : World) (h : IsDisk w d m A 200 c acts) (hm : w.heap[m]? = some (.map #[] 0)) (hr : Kd.string.C w A 200 (List.replicate 200 (⟨#[]⟩ : ByteArray))) (h0 : 0 ≤ i) (h1 : i < 200) :
    Calls Tryz.prog 44 #[.pointer (some ⟨d, 0, none⟩), .int .i64 i] w fun e w' => e = .returned (.tuple #[.string Z, .int .i64 0]) ∧ Below w.heap.size w w' := by
  subst hZ
  exact disk_Read d m A c 0 acts i w h hm hr h0 h1
theorem nought_size : (wholeB ⟨#[]⟩).size = 64 := by unfold wholeB; rw [ByteArray.size_append, zerosB_size]; rfl
set_option maxHeartbeats 8000000 in
set_option maxRecDepth 100000 in
theorem log_scan (L d m : Nat) (A : Option Addr) (c : Nat) (acts : Int) (w : World) (hL : IsLog w L d 0 200 1 ⟨#[]⟩ 0) (h : IsDisk w d m A 200 c acts) (hm : w.heap[m]? = some (.map #[] 0)) (hr : Kd.string.C w A 200 (List.replicate 200 (⟨#[]⟩ : ByteArray))) :
    Calls Tryz.prog 31 #[.pointer (some ⟨L, 0, none⟩)] w fun e w' => e = .returned (.tuple #[.string ⟨#[]⟩, .int .i64 0]) ∧ Below w.heap.size w w' := by
  have D := Aside0.mk (IsDisk.below h (below_alloc (Below.refl _ _) (.cells #[.pointer none, .slice none 0 0] 95)))
  have LL := Aside0.mk (IsLog.below hL (below_alloc (Below.refl _ _) (.cells #[.pointer none, .slice none 0 0] 95)))
  have M := Aside0.mk ((Below.heap_alloc w (.cells #[.pointer none, .slice none 0 0] 95) m (Array.getElem?_eq_some_iff.1 hm).1).trans hm)
  have C := Aside0.mk (Kd.C_alloc hr (.cells #[.pointer none, .slice none 0 0] 95))
  have B := Aside0.mk (below_alloc (Below.refl w.heap.size w) (.cells #[.pointer none, .slice none 0 0] 95))
  have U : Aside0 ((w.alloc (.cells #[.pointer none, .slice none 0 0] 95)).heap[w.heap.size]? = some (.cells #[.pointer none, .slice none 0 0] 95 (0, 0))) := ⟨heap_alloc_new w _⟩
  obtain ⟨Z, hZ⟩ : ∃ Z, Z = wholeB ⟨#[]⟩ := ⟨_, rfl⟩
  have HZ := Aside0.mk hZ
  have HNN : Aside0 (pack_Reader_Num.f Z 0 0 4 = some (0, Z, 4, 0)) := ⟨by rw [hZ]; exact num_nought⟩
  have HSZ : Aside0 (Z.size = 64) := ⟨by rw [hZ]; exact nought_size⟩
  clear hZ
  have hLw : L < w.heap.size := (Array.getElem?_eq_some_iff.1 hL).1
  have c2 := IsLog.at_2 LL.out; clear h hL hm hr
  go_enter Tryz.func31, Tryz.ntmps31
  go_wp2_with fail
  refine wp_loop_rounds 1 ?_
  rw [rounds_succ]
  go_wp2_with fail
  clear c2
  obtain ⟨b, hb⟩ : ∃ b, b = w.heap.size := ⟨_, rfl⟩
  generalize w.alloc (.cells #[.pointer none, .slice none 0 0] 95) = W at *
  rw [← hb] at U ⊢
  have hb0 : w.heap.size ≤ b := Nat.le_of_eq hb.symm
  clear hb
  refine start_ (n := 16) (S := fun w' => Below W.drew.heap.size W.drew w') (ds := []) #[false, false, false, false, false, false, false, false, false, false, false, false, false, false, false, false] (by kernel_rfl) rfl rfl (Below.refl _ _) (fun hHeld => ?_); refine with_tabW log_scan.tab6 log_scan.bits6 (fun HT_ HW_ => ?_)
  have D0 : Aside0 (IsDisk W.drew d m A 200 c acts) := ⟨D.out⟩
  have M0 : Aside0 (W.drew.heap[m]? = some (.map #[] 0)) := ⟨M.out⟩
  have C0 := Aside0.mk (Kd.C_drew C.out); have B0 := Aside0.mk (below_drew B.out)
  have L0 : Aside0 (IsLog W.drew L d 0 200 1 ⟨#[]⟩ 0) := ⟨LL.out⟩
  have U0 : Aside0 (W.drew.heap[b]? = some (.cells #[.pointer none, .slice none 0 0] 95 (0, 0))) := ⟨U.out⟩
  have f1_ := Aside0.mk (IsLog.at_0 L0.out); have f2_ := Aside0.mk (IsLog.at_1 L0.out); clear D M C B LL U
  generalize W.drew = W0 at D0 M0 C0 B0 L0 U0 f1_ f2_ hHeld ⊢
  refine pure_ (i := 0) (N := some 20) (v := ?_) (a' := ?_) #[true, false, false, false, false, false, false, false, false, false, false, false, false, false, false, false] rfl rfl (any_of HT_.out (by kernel_rfl)) (fun _ _ _ h => h) (Or.inl ⟨by rfl, ?_⟩) ?_ ?_
  rotate_left
  · intro w'
    go_simp
    with_reducible rfl
  rotate_left
  · simp only [Act.put, List.setIfInBounds_toArray, List.set_cons_zero, List.set_cons_succ, i64_w, i32_w]
    rfl
  refine pure_ (i := 1) (N := some 21) (v := ?_) (a' := ?_) #[true, true, false, false, false, false, false, false, false, false, false, false, false, false, false, false] rfl rfl (any_of HT_.out (by kernel_rfl)) (fun _ _ _ h => h) (Or.inl ⟨by rfl, ?_⟩) ?_ ?_
  rotate_left
  · intro w'
    go_simp
    with_reducible rfl
  rotate_left
  · simp only [Act.put, List.setIfInBounds_toArray, List.set_cons_zero, List.set_cons_succ, i64_w, i32_w]
    rfl
  refine pure_ (i := 2) (N := some 22) (v := ?_) (a' := ?_) #[true, true, true, false, false, false, false, false, false, false, false, false, false, false, false, false] rfl rfl (any_of HT_.out (by kernel_rfl)) (fun _ _ _ h => h) (Or.inl ⟨by rfl, ?_⟩) ?_ ?_
  rotate_left
  · intro w'
    go_simp
    with_reducible rfl
  rotate_left
  · simp only [Act.put, List.setIfInBounds_toArray, List.set_cons_zero, List.set_cons_succ, i64_w, i32_w]
    rfl
  refine take_ (i := 3) (N := some 23) (v := ?_) (a' := ?_) #[true, true, true, true, false, false, false, false, false, false, false, false, false, false, false, false] rfl rfl (take_ofW HT_.out HW_.out (by kernel_rfl)) (fun _ _ _ h => h) (Or.inl ⟨by rfl, ?_⟩) hHeld ?_ ?_
  rotate_left
  · intro w' hs
    have s1 := below_cell hs f1_.out; have s2 := below_cell hs f2_.out
    go_simp
    with_reducible rfl
  rotate_left
  · simp only [Act.put, List.setIfInBounds_toArray, List.set_cons_zero, List.set_cons_succ, i64_w, i32_w]
    rfl
  refine pure_ (i := 4) (N := some 24) (v := ?_) (a' := ?_) #[true, true, true, true, true, false, false, false, false, false, false, false, false, false, false, false] rfl rfl (any_of HT_.out (by kernel_rfl)) (fun _ _ _ h => h) (Or.inl ⟨by rfl, ?_⟩) ?_ ?_
  rotate_left
  · intro w'
    go_simp
    with_reducible rfl
  rotate_left
  · simp only [Act.put, List.setIfInBounds_toArray, List.set_cons_zero, List.set_cons_succ, i64_w, i32_w]
    rfl
  refine pure_ (i := 5) (N := some 25) (v := ?_) (a' := ?_) #[true, true, true, true, true, true, false, false, false, false, false, false, false, false, false, false] rfl rfl (any_of HT_.out (by kernel_rfl)) (fun _ _ _ h => h) (Or.inl ⟨by rfl, ?_⟩) ?_ ?_
  rotate_left
  · intro w'
    go_simp
    with_reducible rfl
  rotate_left
  · simp only [Act.put, List.setIfInBounds_toArray, List.set_cons_zero, List.set_cons_succ, i64_w, i32_w]
    rfl
  refine pure_ (i := 6) (N := some 26) (v := ?_) (a' := ?_) #[true, true, true, true, true, true, true, false, false, false, false, false, false, false, false, false] rfl rfl (any_of HT_.out (by kernel_rfl)) (fun _ _ _ h => h) (Or.inl ⟨by rfl, ?_⟩) ?_ ?_
  rotate_left
  · intro w'
    go_simp
    with_reducible rfl
  rotate_left
  · simp only [Act.put, List.setIfInBounds_toArray, List.set_cons_zero, List.set_cons_succ, i64_w, i32_w]
    rfl
  refine take_ (i := 7) (N := some 27) (v := ?_) (a' := ?_) #[true, true, true, true, true, true, true, true, false, false, false, false, false, false, false, false] rfl rfl (take_ofW HT_.out HW_.out (by kernel_rfl)) (fun _ _ _ h => h) (Or.inl ⟨by rfl, ?_⟩) hHeld ?_ ?_
  rotate_left
  · intro w' hs
    have s1 := below_cell hs f1_.out; have s2 := below_cell hs f2_.out
    go_simp
    with_reducible rfl
  rotate_left
  · simp only [Act.put, List.setIfInBounds_toArray, List.set_cons_zero, List.set_cons_succ, i64_w, i32_w]
    rfl
  refine pure_ (i := 8) (N := some 28) (v := ?_) (a' := ?_) #[true, true, true, true, true, true, true, true, true, false, false, false, false, false, false, false] rfl rfl (any_of HT_.out (by kernel_rfl)) (fun _ _ _ h => h) (Or.inl ⟨by rfl, ?_⟩) ?_ ?_
  rotate_left
  · intro w'
    go_simp
    with_reducible rfl
  rotate_left
  · simp only [Act.put, List.setIfInBounds_toArray, List.set_cons_zero, List.set_cons_succ, i64_w, i32_w]
    rfl
  refine pure_ (i := 9) (N := some 29) (v := ?_) (a' := ?_) #[true, true, true, true, true, true, true, true, true, true, false, false, false, false, false, false] rfl rfl (any_of HT_.out (by kernel_rfl)) (fun _ _ _ h => h) (Or.inl ⟨by rfl, ?_⟩) ?_ ?_
  rotate_left
  · intro w'
    go_simp
    with_reducible rfl
  rotate_left
  · simp only [Act.put, List.setIfInBounds_toArray, List.set_cons_zero, List.set_cons_succ, i64_w, i32_w]
    rfl
  refine one_ (i := 10) (N := some 30) #[true, true, true, true, true, true, true, true, true, true, true, false, false, false, false, false] rfl rfl (one_of HT_.out (by kernel_rfl)) (by decide) (fun K hK => ?_)
  refine goes_ Tryz.func44 (by kernel_rfl) rfl #[.pointer (some ⟨d, 0, none⟩), .int .i64 (wrap64 0)] (by rfl) rfl rfl (by (try simp only [List.map_toArray, List.map_cons, List.map_nil]); rfl) ?_
  rw [show wrap64 0 = 0 from by kernel_rfl]
  refine (disk_ReadZ Z HZ.out d m A c acts 0 W0 D0.out M0.out C0.out (by omega) (by omega)).mono ?_
  rintro e w3 ⟨rfl, hb⟩
  refine ⟨_, rfl, ?_⟩
  refine hK.out _ _ (hb) (fun hHeld2 => ?_)
  clear hK K; have B3 := Aside0.mk (below_step B0.out hb); have L3 := Aside0.mk (IsLog.below L0.out hb); have U3 := Aside0.mk (blk_below U0.out hb); clear hb hHeld hHeld2 D0 M0 C0 B0 L0 U0
  refine norm_ (a' := ?_) ?_ ?_
  rotate_left
  · simp only [Act.put, List.setIfInBounds_toArray, List.set_cons_zero, List.set_cons_succ]
    rfl
  refine pure_ (i := 11) (N := some 19) (v := ?_) (a' := ?_) #[true, true, true, true, true, true, true, true, true, true, true, true, false, false, false, false] rfl rfl (any_of HT_.out (by kernel_rfl)) (fun _ _ _ h => h) (Or.inl ⟨by rfl, ?_⟩) ?_ ?_
  rotate_left
  · intro w'
    go_simp
    with_reducible rfl
  rotate_left
  · simp only [Act.put, List.setIfInBounds_toArray, List.set_cons_zero, List.set_cons_succ, i64_w, i32_w]
    rfl
  refine pure_ (i := 12) (N := some 31) (v := ?_) (a' := ?_) #[true, true, true, true, true, true, true, true, true, true, true, true, true, false, false, false] rfl rfl (any_of HT_.out (by kernel_rfl)) (fun _ _ _ h => h) (Or.inl ⟨by rfl, ?_⟩) ?_ ?_
  rotate_left
  · intro w'
    go_simp
    with_reducible rfl
  rotate_left
  · simp only [Act.put, List.setIfInBounds_toArray, List.set_cons_zero, List.set_cons_succ, i64_w, i32_w]
    rfl
  refine pure_ (i := 13) (N := some 32) (v := ?_) (a' := ?_) #[true, true, true, true, true, true, true, true, true, true, true, true, true, true, false, false] rfl rfl (any_of HT_.out (by kernel_rfl)) (fun _ _ _ h => h) (Or.inl ⟨by rfl, ?_⟩) ?_ ?_
  rotate_left
  · intro w'
    go_simp
    with_reducible rfl
  rotate_left
  · simp only [Act.put, List.setIfInBounds_toArray, List.set_cons_zero, List.set_cons_succ, i64_w, i32_w]
    rfl
  refine pure_ (i := 14) (N := some 7) (v := ?_) (a' := ?_) #[true, true, true, true, true, true, true, true, true, true, true, true, true, true, true, false] rfl rfl (any_of HT_.out (by kernel_rfl)) (fun _ _ _ h => h) (Or.inl ⟨by rfl, ?_⟩) ?_ ?_
  rotate_left
  · intro w'
    go_simp
    with_reducible rfl
  rotate_left
  · simp only [Act.put, List.setIfInBounds_toArray, List.set_cons_zero, List.set_cons_succ, i64_w, i32_w]
    rfl
  refine pure_ (i := 15) (N := some 8) (v := ?_) (a' := ?_) #[true, true, true, true, true, true, true, true, true, true, true, true, true, true, true, true] rfl rfl (any_of HT_.out (by kernel_rfl)) (fun _ _ _ h => h) (Or.inl ⟨by rfl, ?_⟩) ?_ ?_
  rotate_left
  · intro w'
    go_simp
    with_reducible rfl
  rotate_left
  · simp only [Act.put, List.setIfInBounds_toArray, List.set_cons_zero, List.set_cons_succ, i64_w, i32_w]
    rfl
  refine done_ (done_of HT_.out (by kernel_rfl)) ?_
  go_wp2_with fail
  refine (pack_Read.calls Z _ _ _ w w3 B3.out rfl).mono ?_
  rintro e w4 ⟨g, rfl, hi, hb1, hb2⟩
  have R4 := Aside0.mk hi; have B4 := Aside0.mk hb1; have L4 := Aside0.mk (IsLog.below L3.out hb2); have U4 := Aside0.mk (blk_below U3.out hb2); clear hi hb1 hb2 L3 U3 B3
  go_wp2_with fail
  refine (pack_Reader_Num.calls g Z 0 0 4 0 Z 4 0 w w4 R4.out B4.out HNN.out).mono ?_
  rintro e w5 ⟨rfl, hi, hb1, hk⟩
  have hLg : L ≠ g := by have := R4.out.2; omega
  have hbg : b ≠ g := by
    intro e1
    have h1 := R4.out.1
    rw [← e1, U4.out] at h1
    simp at h1
  have R5 := Aside0.mk hi; have B5 := Aside0.mk hb1
  have L5 : Aside0 (IsLog w5 L d 0 200 1 ⟨#[]⟩ 0) := ⟨(hk.2 L (Array.getElem?_eq_some_iff.1 L4.out).1 hLg (by simp)).trans L4.out⟩
  have U5 : Aside0 (w5.heap[b]? = some (.cells #[.pointer none, .slice none 0 0] 95 (0, 0))) := ⟨(hk.2 b (Array.getElem?_eq_some_iff.1 U4.out).1 hbg (by simp)).trans U4.out⟩
  clear hi hb1 hk L4 U4 B4 R4
  obtain ⟨n2, p2, e2, hn2, _, _⟩ := num_tot Z 4 0 2 ⟨by omega, by have := HSZ.out; omega, by have := HSZ.out; omega⟩
  have HN2 := Aside0.mk hn2; clear hn2
  go_wp2_with fail
  refine (pack_Reader_Num.calls g Z 4 0 2 n2 Z p2 e2 w w5 R5.out B5.out HN2.out).mono ?_
  rintro e w6 ⟨rfl, hi, hb1, hk⟩
  have B6 := Aside0.mk hb1
  have L6 : Aside0 (IsLog w6 L d 0 200 1 ⟨#[]⟩ 0) := ⟨(hk.2 L (Array.getElem?_eq_some_iff.1 L5.out).1 hLg (by simp)).trans L5.out⟩
  have U6 : Aside0 (w6.heap[b]? = some (.cells #[.pointer none, .slice none 0 0] 95 (0, 0))) := ⟨(hk.2 b (Array.getElem?_eq_some_iff.1 U5.out).1 hbg (by simp)).trans U5.out⟩
  clear hi hb1 hk L5 U5 B5 R5; have c63 := IsLog.at_3 L6.out
  go_wp2_with fail
  refine (Tryz.Builder_String_empty w.heap.size b w6 (.inl ⟨hb0, _, U6.out, (show w6.ownsRow w.heap.size 5 1 (.slice none 0 0) 0 [] from World.ownsRow_nil _ _ _ _), by simp [Value.ownBlock]⟩) B6.out.size).mono ?_
  rintro e w7 ⟨rfl, hb1⟩
  have B7 := Aside0.mk (Below.trans B6.out hb1); clear hb1
  go_wp2_with fail
  go_ret2
  exact ⟨rfl, B7.out⟩
end Go.Proofs.YteoebfiacnploaaGreat.HRec
