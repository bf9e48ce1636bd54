/- Texts of this proof, put together: WalE, Fwalwhole. They prove no statement. -/
import Derived.Test.YteoebfiacnploaaGreatDoorQG18
import Derived.Test.YteoebfiacnploaaGreatDoorQG14
import Derived.Test.YteoebfiacnploaaGreatDoorQPureTot
import Derived.Test.YteoebfiacnploaaGreatDoorQFtypes
import Derived.Test.YteoebfiacnploaaGreatDoorQG12
namespace Go.Proofs.YteoebfiacnploaaGreatDoor.HRec
open Go.RowKit Go.Proofs.YteoebfiacnploaaGreatDoorW.PrintWords Go.Proofs.YteoebfiacnploaaGreatDoorW.PrintLast Go.Proofs.YteoebfiacnploaaGreatDoorW.PrintMore
open Go.ChangeMaps (setBlock)
set_option linter.unusedVariables false
set_option linter.unusedSimpArgs false
def log_scan.T6 : Bool × List (List Nat × List Nat) := (true, [([], []), ([0], [0]), ([1], [1]), ([2], [2]), ([], []), ([4], [4]), ([5], [5]), ([6], [6]), ([], []), ([7, 8], [7, 8]), ([3, 9], [3, 9]), ([10], [10]), ([11], [11]), ([11], [11]), ([12, 10, 0, 1, 2, 3, 4, 5, 6, 7, 8, 9, 10, 11, 12], [12]), ([13, 14, 0, 1, 2, 3, 4, 5, 6, 7, 8, 9, 10, 11, 12, 13, 14], [13])])
def log_scan.B6 : List Nat := [0, 1, 3, 7, 0, 16, 48, 112, 0, 496, 1023, 2047, 4095, 4095, 8191, 32767]
theorem log_scan.tab6 : rtab .any (opsOf Tryz.f24 6) = log_scan.T6 := by kernel_rfl
theorem log_scan.bits6 : waitsOk log_scan.T6.2 log_scan.B6 = true := by kernel_rfl
set_option maxHeartbeats 8000000 in
set_option maxRecDepth 100000 in
theorem wal_check (d m : Nat) (A : Option Addr) (c : Nat) (acts : Int) (w : World) (h : IsDisk w d m A 200 c acts) :
    Calls Tryz.prog 23 #[.pointer (some ⟨d, 0, none⟩), .int .i64 0, .int .i64 200, .int .i64 1] w fun e w' => e = .returned (.int .i64 0) ∧ w' = w := by
  have HC := Aside0.mk (disk_Size d m A 200 c acts w h (by omega)); clear h
  go_enter Tryz.func23, Tryz.ntmps23
  go_wp2_with fail
  refine HC.out.mono ?_
  rintro e w1 ⟨rfl, hw⟩
  rw [hw]
  clear hw w1
  go_wp2_with fail
  refine HC.out.mono ?_
  rintro e w1 ⟨rfl, hw⟩
  rw [hw]
  clear hw w1
  go_wp2_with fail
  go_ret
  exact ⟨rfl, rfl⟩
set_option maxHeartbeats 8000000 in
set_option maxRecDepth 100000 in
theorem log_down (L : Nat) (w : World) :
    Calls Tryz.prog 50 #[.pointer (some ⟨L, 0, none⟩), .int .i64 0] w fun e w' => e = .returned (.int .i64 0) ∧ w' = w := by
  go_enter Tryz.func50, Tryz.ntmps50
  go_wp2_with fail
  go_ret
  exact ⟨rfl, rfl⟩
theorem IsLog.at_1 {W : World} {L d : Nat} {base sectors run : Int} {all : ByteArray} {dur : Int} (h : IsLog W L d base sectors run all dur) : W.cell? ⟨L, 1, none⟩ = some (.int .i64 base) := (blk_cell h 1).trans rfl
theorem IsLog.at_3 {W : World} {L d : Nat} {base sectors run : Int} {all : ByteArray} {dur : Int} (h : IsLog W L d base sectors run all dur) : W.cell? ⟨L, 3, none⟩ = some (.int .i64 run) := (blk_cell h 3).trans rfl
theorem IsLog.at_5 {W : World} {L d : Nat} {base sectors run : Int} {all : ByteArray} {dur : Int} (h : IsLog W L d base sectors run all dur) : W.cell? ⟨L, 5, none⟩ = some (.int .i64 dur) := (blk_cell h 5).trans rfl
/-- The first number of a sector of noughts is 0. -/
theorem num_nought : pack_Reader_Num.f (wholeB ⟨#[]⟩) 0 0 4 = some (0, wholeB ⟨#[]⟩, 4, 0) := by kernel_rfl
theorem disk_ReadZ (Z : ByteArray) (hZ : Z = wholeB ⟨#[]⟩) (d m : Nat) (A : Option Addr) (c : Nat) (acts i : Int) (w : World) (h : IsDisk w d m A 200 c acts) (hm : w.heap[m]? = some (.map #[] 0)) (hr : Kd.string.C w A 200 (List.replicate 200 (⟨#[]⟩ : ByteArray))) (h0 : 0 ≤ i) (h1 : i < 200) :
    Calls Tryz.prog 45 #[.pointer (some ⟨d, 0, none⟩), .int .i64 i] w fun e w' => e = .returned (.tuple #[.string Z, .int .i64 0]) ∧ Below w.heap.size w w' := by
  subst hZ
  exact disk_Read d m A c 0 acts i w h hm hr h0 h1
theorem nought_size : (wholeB ⟨#[]⟩).size = 64 := by unfold wholeB; rw [ByteArray.size_append, zerosB_size]; rfl
set_option maxHeartbeats 8000000 in
set_option maxRecDepth 100000 in
theorem log_scan (L d m : Nat) (A : Option Addr) (c : Nat) (acts : Int) (w : World) (hL : IsLog w L d 0 200 1 ⟨#[]⟩ 0) (h : IsDisk w d m A 200 c acts) (hm : w.heap[m]? = some (.map #[] 0)) (hr : Kd.string.C w A 200 (List.replicate 200 (⟨#[]⟩ : ByteArray))) :
    Calls Tryz.prog 24 #[.pointer (some ⟨L, 0, none⟩)] w fun e w' => e = .returned (.tuple #[.string ⟨#[]⟩, .int .i64 0]) ∧ Below w.heap.size w w' := by
  have D := Aside0.mk (IsDisk.below h (below_alloc (Below.refl _ _) (.cells #[.pointer none, .slice none 0 0] 59)))
  have LL := Aside0.mk (IsLog.below hL (below_alloc (Below.refl _ _) (.cells #[.pointer none, .slice none 0 0] 59)))
  have M := Aside0.mk ((Below.heap_alloc w (.cells #[.pointer none, .slice none 0 0] 59) m (Array.getElem?_eq_some_iff.1 hm).1).trans hm)
  have C := Aside0.mk (Kd.C_alloc hr (.cells #[.pointer none, .slice none 0 0] 59))
  have B := Aside0.mk (below_alloc (Below.refl w.heap.size w) (.cells #[.pointer none, .slice none 0 0] 59))
  have U : Aside0 ((w.alloc (.cells #[.pointer none, .slice none 0 0] 59)).heap[w.heap.size]? = some (.cells #[.pointer none, .slice none 0 0] 59 (0, 0))) := ⟨heap_alloc_new w _⟩
  obtain ⟨Z, hZ⟩ : ∃ Z, Z = wholeB ⟨#[]⟩ := ⟨_, rfl⟩
  have HZ := Aside0.mk hZ
  have HNN : Aside0 (pack_Reader_Num.f Z 0 0 4 = some (0, Z, 4, 0)) := ⟨by rw [hZ]; exact num_nought⟩
  have HSZ : Aside0 (Z.size = 64) := ⟨by rw [hZ]; exact nought_size⟩
  clear hZ
  have hLw : L < w.heap.size := (Array.getElem?_eq_some_iff.1 hL).1
  have c2 := IsLog.at_2 LL.out; clear h hL hm hr
  go_enter Tryz.func24, Tryz.ntmps24
  go_wp2_with fail
  refine wp_loop_rounds 1 ?_
  rw [rounds_succ]
  go_wp2_with fail
  clear c2
  obtain ⟨b, hb⟩ : ∃ b, b = w.heap.size := ⟨_, rfl⟩
  generalize w.alloc (.cells #[.pointer none, .slice none 0 0] 59) = W at *
  rw [← hb] at U ⊢
  have hb0 : w.heap.size ≤ b := Nat.le_of_eq hb.symm
  clear hb
  refine start_ (n := 16) (S := fun w' => Below W.drew.heap.size W.drew w') (ds := []) #[false, false, false, false, false, false, false, false, false, false, false, false, false, false, false, false] (by kernel_rfl) rfl rfl (Below.refl _ _) (fun hHeld => ?_); refine with_tabW log_scan.tab6 log_scan.bits6 (fun HT_ HW_ => ?_)
  refine ord_ [0, 1, 2, 3, 4, 5, 6, 7, 8, 9, 10, 11, 12, 13, 14, 15] ?_
  have D0 : Aside0 (IsDisk W.drew d m A 200 c acts) := ⟨D.out⟩
  have M0 : Aside0 (W.drew.heap[m]? = some (.map #[] 0)) := ⟨M.out⟩
  have C0 := Aside0.mk (Kd.C_drew C.out); have B0 := Aside0.mk (below_drew B.out)
  have L0 : Aside0 (IsLog W.drew L d 0 200 1 ⟨#[]⟩ 0) := ⟨LL.out⟩
  have U0 : Aside0 (W.drew.heap[b]? = some (.cells #[.pointer none, .slice none 0 0] 59 (0, 0))) := ⟨U.out⟩
  have f1_ := Aside0.mk (IsLog.at_0 L0.out); have f2_ := Aside0.mk (IsLog.at_1 L0.out); clear D M C B LL U
  generalize W.drew = W0 at D0 M0 C0 B0 L0 U0 f1_ f2_ hHeld ⊢
  iterate 10
    first
    | refine ordP (v := ?_) (a' := ?_) HT_ rfl rfl (by kernel_rfl) (fun _ _ _ h => h) (.inl ⟨by rfl, ?_⟩) ?_ ?_
      rotate_left
      · intro w'
        go_simp
        with_reducible rfl
      rotate_left
      · simp only [Act.put, List.setIfInBounds_toArray, List.set_cons_zero, List.set_cons_succ, i64_w, i32_w]
        rfl
    | refine ordT (v := ?_) (a' := ?_) HT_ HW_ rfl rfl (by kernel_rfl) (fun _ _ _ h => h) (.inl ⟨by rfl, ?_⟩) hHeld ?_ ?_
      rotate_left
      · intro w' hs
        have s1 := below_cell hs f1_.out; have s2 := below_cell hs f2_.out
        go_simp
        with_reducible rfl
      rotate_left
      · simp only [Act.put, List.setIfInBounds_toArray, List.set_cons_zero, List.set_cons_succ, i64_w, i32_w]
        rfl
  refine ord1 (N := some 30) HT_ rfl rfl (by kernel_rfl) (by decide) (fun K hK => ?_)
  refine goes_ Tryz.func45 (by kernel_rfl) rfl #[.pointer (some ⟨d, 0, none⟩), .int .i64 (wrap64 0)] (by rfl) rfl rfl (by (try simp only [List.map_toArray, List.map_cons, List.map_nil]); rfl) ?_
  rw [show wrap64 0 = 0 from by kernel_rfl]
  refine (disk_ReadZ Z HZ.out d m A c acts 0 W0 D0.out M0.out C0.out (by omega) (by omega)).mono ?_
  rintro e w3 ⟨rfl, hb⟩
  refine ⟨_, rfl, ?_⟩
  refine hK.out _ _ (hb) (fun hHeld2 => ?_)
  clear hK K; have B3 := Aside0.mk (below_step B0.out hb); have L3 := Aside0.mk (IsLog.below L0.out hb); have U3 := Aside0.mk (blk_below U0.out hb); clear hb hHeld hHeld2 D0 M0 C0 B0 L0 U0
  refine ordN (a' := ?_) ?_ ?_
  rotate_left
  · simp only [Act.put, List.setIfInBounds_toArray, List.set_cons_zero, List.set_cons_succ]
    rfl
  iterate 5
    refine ordP (v := ?_) (a' := ?_) HT_ rfl rfl (by kernel_rfl) (fun _ _ _ h => h) (.inl ⟨by rfl, ?_⟩) ?_ ?_
    rotate_left
    · intro w'
      go_simp
      with_reducible rfl
    rotate_left
    · simp only [Act.put, List.setIfInBounds_toArray, List.set_cons_zero, List.set_cons_succ, i64_w, i32_w]
      rfl
  refine ordD HT_ (by kernel_rfl) ?_
  go_wp2_with fail
  refine (pack_Read.calls Z _ _ _ w w3 B3.out rfl).mono ?_
  rintro e w4 ⟨g, rfl, hi, hb1, hb2⟩
  have R4 := Aside0.mk hi; have B4 := Aside0.mk hb1; have L4 := Aside0.mk (IsLog.below L3.out hb2); have U4 := Aside0.mk (blk_below U3.out hb2); clear hi hb1 hb2 L3 U3 B3
  go_wp2_with fail
  refine (pack_Reader_Num.calls g Z 0 0 4 0 Z 4 0 w w4 R4.out B4.out HNN.out).mono ?_
  rintro e w5 ⟨rfl, hi, hb1, hk⟩
  have hLg : L ≠ g := by have := R4.out.2; omega
  have hbg : b ≠ g := by
    intro e1
    have h1 := R4.out.1
    rw [← e1, U4.out] at h1
    simp at h1
  have R5 := Aside0.mk hi; have B5 := Aside0.mk hb1
  have L5 : Aside0 (IsLog w5 L d 0 200 1 ⟨#[]⟩ 0) := ⟨(hk.2 L (Array.getElem?_eq_some_iff.1 L4.out).1 hLg (by simp)).trans L4.out⟩
  have U5 : Aside0 (w5.heap[b]? = some (.cells #[.pointer none, .slice none 0 0] 59 (0, 0))) := ⟨(hk.2 b (Array.getElem?_eq_some_iff.1 U4.out).1 hbg (by simp)).trans U4.out⟩
  clear hi hb1 hk L4 U4 B4 R4
  obtain ⟨n2, p2, e2, hn2, _, _⟩ := num_tot Z 4 0 2 ⟨by omega, by have := HSZ.out; omega, by have := HSZ.out; omega⟩
  have HN2 := Aside0.mk hn2; clear hn2
  go_wp2_with fail
  refine (pack_Reader_Num.calls g Z 4 0 2 n2 Z p2 e2 w w5 R5.out B5.out HN2.out).mono ?_
  rintro e w6 ⟨rfl, hi, hb1, hk⟩
  have B6 := Aside0.mk hb1
  have L6 : Aside0 (IsLog w6 L d 0 200 1 ⟨#[]⟩ 0) := ⟨(hk.2 L (Array.getElem?_eq_some_iff.1 L5.out).1 hLg (by simp)).trans L5.out⟩
  have U6 : Aside0 (w6.heap[b]? = some (.cells #[.pointer none, .slice none 0 0] 59 (0, 0))) := ⟨(hk.2 b (Array.getElem?_eq_some_iff.1 U5.out).1 hbg (by simp)).trans U5.out⟩
  clear hi hb1 hk L5 U5 B5 R5; have c63 := IsLog.at_3 L6.out
  go_wp2_with fail
  refine (Tryz.Builder_String_empty w.heap.size b w6 (.inl ⟨hb0, _, U6.out, (show w6.ownsRow w.heap.size 5 1 (.slice none 0 0) 0 [] from World.ownsRow_nil _ _ _ _), by simp [Value.ownBlock]⟩) B6.out.size).mono ?_
  rintro e w7 ⟨rfl, hb1⟩
  have B7 := Aside0.mk (Below.trans B6.out hb1); clear hb1
  go_wp2_with fail
  go_ret2
  exact ⟨rfl, B7.out⟩
end Go.Proofs.YteoebfiacnploaaGreatDoor.HRec
namespace Go.Proofs.YteoebfiacnploaaGreatDoor.HRec
open Go.RowKit Go.Proofs.YteoebfiacnploaaGreatDoor.HRec Go.Proofs.YteoebfiacnploaaGreatDoorW.PrintWords Go.Proofs.YteoebfiacnploaaGreatDoorW.PrintLast Go.Proofs.YteoebfiacnploaaGreatDoorW.PrintMore
attribute [local go_sem] max2_int min2_int max_two min_two max_three min_three max_four min_four   -- for this text's walks alone
set_option linter.unusedVariables false
set_option linter.unusedSimpArgs false
/-! ### wal_whole: function 32 -/
def wal_whole.l0 : Nat → ByteArray → Int → Option (Int)
  | 0, _, _ => none
  | k + 1, x0, x3 => (rec_Open.f k x0 x3).bind fun bt141 => (if bt141.2.2.2.2.2.2.2.2.2.2.2.2.2.2 = 0 then (wal_whole.l0 k x0 (wrap64 (x3 + bt141.2.2.2.2.2.2.2.2.2.2.2.2.2.1))) else (some x3))
def wal_whole.f (k : Nat) (a0 : ByteArray) : Option (Int) := wal_whole.l0 k a0 0
theorem wal_whole.mono_l : ∀ k, (∀ y0 y1, LeO (wal_whole.l0 k y0 y1) (wal_whole.l0 (k + 1) y0 y1))
  | 0 => fun _ _ r h => by simp [wal_whole.l0] at h
  | k + 1 => by
    have ih0 := wal_whole.mono_l k
    · intro y0 y1
      unfold wal_whole.l0
      repeat' first
      | (with_reducible exact ih0 _ _)
      | (with_reducible exact rec_Open.mono _ _ _)
      | (with_reducible exact LeO.refl _)
      | (with_reducible exact LeO.none _)
      | (with_reducible refine LeO.ite ?_ ?_)
      | (with_reducible refine LeO.bind ?_ (fun _ => ?_))
      | exact ih0 _ _
      | exact rec_Open.mono _ _ _
      | exact LeO.none _
      | refine LeO.ite ?_ ?_
      | refine LeO.bind ?_ (fun _ => ?_)
theorem wal_whole.mono : ∀ a0 k, LeO (wal_whole.f k a0) (wal_whole.f (k + 1) a0) := by
  intro a0 k
  have ih0 := wal_whole.mono_l k
  unfold wal_whole.f
  repeat' first
      | (with_reducible exact ih0 _ _)
      | (with_reducible exact rec_Open.mono _ _ _)
      | (with_reducible exact LeO.refl _)
      | (with_reducible exact LeO.none _)
      | (with_reducible refine LeO.ite ?_ ?_)
      | (with_reducible refine LeO.bind ?_ (fun _ => ?_))
      | exact ih0 _ _
      | exact rec_Open.mono _ _ _
      | exact LeO.none _
      | refine LeO.ite ?_ ?_
      | refine LeO.bind ?_ (fun _ => ?_)
set_option maxHeartbeats 8000000 in
set_option maxRecDepth 100000 in
theorem wal_whole.calls (k : Nat) (a0 : ByteArray) (r : Int) (w : World) (h : wal_whole.f k a0 = some r) :
    Calls Tryz.prog 25 #[.string a0] w fun e w' => e = .returned (.int .i64 r) ∧ Below w.heap.size w w' := by
  have hu32 := Tryz.underlying33; have HB := Aside0.mk (Below.refl w.heap.size w)
  have H : (wal_whole.l0 k a0 0) = some r := h
  clear h
  have H' := Aside0.mk H
  clear H
  go_enter Tryz.func25, Tryz.ntmps25
  go_wp2
  go_loopg [3] k (fun kq v3 w' => ∃ (x3_1 : Int), v3 = .int .i64 x3_1 ∧ Aside0 (wal_whole.l0 kq a0 x3_1 = some r) ∧ Aside0 (kq ≤ k) ∧ Aside0 (Below w.heap.size w w'))
  case atStart => exact ⟨(0), (by first | rfl | (simp; done) | (simp [*]; done)), H', ⟨Nat.le_refl _⟩, ⟨by repeat (first | (with_reducible first | exact HB.out | apply below_alloc | apply pw_below_drewN | apply below_drew1) | exact HB.out)⟩⟩
  case round =>
    clear H'
    obtain ⟨x3_1, rfl, HA, HK1, HB⟩ := hrel
    cases gk with
    | zero => exact absurd HA.out (by simp [wal_whole.l0])
    | succ k1 =>
      have H := HA.out; clear HA
      simp only [wal_whole.l0] at H
      replace H := Option.bind_eq_some_iff.mp H
      obtain ⟨⟨t141, t142, t143, t144, t145, t146, t147, t148, t149, t150, t153, t156, t157, t158, t159⟩, A20, H⟩ := H
      replace H : (if t159 = 0 then (wal_whole.l0 k1 a0 (wrap64 (x3_1 + t158))) else (some x3_1)) = some r := H
      have A2 := Aside0.mk A20; clear A20
      by_cases c3 : t159 = 0
      · rw [if_pos c3] at H
        have c3b0 : (t159 == 0) = true := beq_iff_eq.mpr c3
        have c3b1 : (t159 != 0) = false := bne_eq_false_iff_eq.mpr c3
        clear c3
        have H' := Aside0.mk H
        clear H
        go_wp2_with (first | ((with_reducible refine gate_callee (f := 30) rfl ?_); refine goesL_ (some 10) rfl rfl Tryz.func30 (by kernel_rfl) rfl #[.string a0, .int .i64 x3_1] rfl (by (try simp only [List.map_toArray, List.map_cons, List.map_nil]); first | done | rfl | (simp only [List.length_drop, List.length_take]; rfl)) ?_; (with_reducible refine (rec_Open.calls k1 a0 x3_1 t141 t142 t143 t144 t145 t146 t147 t148 t149 t150 t153 t156 t157 t158 t159 _ A2.out).mono ?_); rintro e w4 ⟨v151, v154, rfl, ho0, ho1, hb⟩; refine ⟨_, rfl, ?_⟩; have n0_ := Aside0.mk (Kd.R_lower ho0 (below_size (by repeat (first | (with_reducible first | exact HB.out | apply below_alloc | apply pw_below_drewN | apply below_drew1) | exact HB.out)))); have n1_ := Aside0.mk (Kd.R_lower ho1 (below_size (by repeat (first | (with_reducible first | exact HB.out | apply below_alloc | apply pw_below_drewN | apply below_drew1) | exact HB.out)))); have n2_ := Aside0.mk (below_step (by repeat (first | (with_reducible first | exact HB.out | apply below_alloc | apply pw_below_drewN | apply below_drew1) | exact HB.out)) hb); clear HB; have HO152 := n0_; have HO155 := n1_; have HB := n2_; clear n0_ n1_ n2_; (try clear hb); (try clear hb2); (try clear hk); (try clear hi); (try clear ho0); (try clear ho1)) | ((with_reducible refine gate_dst (N := 4) rfl ?_); refine box_event ?hg (N := 4) ?hd (cs := #[.int .i64 0, .int .i64 0, .int .i64 0, .int .i64 0, .int .i64 0, .string (⟨#[]⟩ : ByteArray), .string (⟨#[]⟩ : ByteArray), .string (⟨#[]⟩ : ByteArray), .int .i64 0, .slice none 0 0, .slice none 0 0, .int .i64 0, .int .i64 0]) (t := 33) ?hr ?_; (case hd => rfl); (case hg => rfl); (case hr => first | (go_simp; done) | (go_simp; rfl)); intro gb160 hg w5 hbox hb; have n0_ := Aside0.mk (Kd.R_below (by (with_reducible repeat (first | apply Kd.R_alloc | apply Kd.R_drewN | apply Kd.R_drew)); exact HO152.out) hb); have n1_ := Aside0.mk (Kd.R_below (by (with_reducible repeat (first | apply Kd.R_alloc | apply Kd.R_drewN | apply Kd.R_drew)); exact HO155.out) hb); have n2_ := Aside0.mk (below_step (by repeat (first | (with_reducible first | exact HB.out | apply below_alloc | apply pw_below_drewN | apply below_drew1) | exact HB.out)) hb); have n3_ := Aside0.mk (hbox); have n4_ := Aside0.mk ((by rw [hg]; exact (below_size (by repeat (first | (with_reducible first | exact HB.out | apply below_alloc | apply pw_below_drewN | apply below_drew1) | exact HB.out))) : w.heap.size ≤ gb160)); have n5_ := Aside0.mk ((by rw [hg]; exact (below_size (by repeat (first | (with_reducible first | exact HB.out | apply below_alloc | apply pw_below_drewN | apply below_drew1) | exact HB.out))) : w.heap.size ≤ gb160)); clear HO152; clear HO155; clear HB; have HO152 := n0_; have HO155 := n1_; have HB := n2_; have BK160 := n3_; have GW160 := n4_; have GE160 := n5_; clear n0_ n1_ n2_ n3_ n4_ n5_; clear hb hbox hg; have hcz6_0 : w5.cell? ⟨gb160, 0, none⟩ = some (.int .i64 0) := (blk_cell BK160.out 0).trans rfl; have hcz6_1 : w5.cell? ⟨gb160, 1, none⟩ = some (.int .i64 0) := (blk_cell BK160.out 1).trans rfl; have hcz6_2 : w5.cell? ⟨gb160, 2, none⟩ = some (.int .i64 0) := (blk_cell BK160.out 2).trans rfl; have hcz6_3 : w5.cell? ⟨gb160, 3, none⟩ = some (.int .i64 0) := (blk_cell BK160.out 3).trans rfl; have hcz6_4 : w5.cell? ⟨gb160, 4, none⟩ = some (.int .i64 0) := (blk_cell BK160.out 4).trans rfl; have hcz6_5 : w5.cell? ⟨gb160, 5, none⟩ = some (.string (⟨#[]⟩ : ByteArray)) := (blk_cell BK160.out 5).trans rfl; have hcz6_6 : w5.cell? ⟨gb160, 6, none⟩ = some (.string (⟨#[]⟩ : ByteArray)) := (blk_cell BK160.out 6).trans rfl; have hcz6_7 : w5.cell? ⟨gb160, 7, none⟩ = some (.string (⟨#[]⟩ : ByteArray)) := (blk_cell BK160.out 7).trans rfl; have hcz6_8 : w5.cell? ⟨gb160, 8, none⟩ = some (.int .i64 0) := (blk_cell BK160.out 8).trans rfl; have hcz6_9 : w5.cell? ⟨gb160, 9, none⟩ = some (.slice none 0 0) := (blk_cell BK160.out 9).trans rfl; have hcz6_10 : w5.cell? ⟨gb160, 10, none⟩ = some (.slice none 0 0) := (blk_cell BK160.out 10).trans rfl; have hcz6_11 : w5.cell? ⟨gb160, 11, none⟩ = some (.int .i64 0) := (blk_cell BK160.out 11).trans rfl; have hcz6_12 : w5.cell? ⟨gb160, 12, none⟩ = some (.int .i64 0) := (blk_cell BK160.out 12).trans rfl; have hfz6_0 := blk_frozen BK160.out 0; have hfz6_1 := blk_frozen BK160.out 1; have hfz6_2 := blk_frozen BK160.out 2; have hfz6_3 := blk_frozen BK160.out 3; have hfz6_4 := blk_frozen BK160.out 4; have hfz6_5 := blk_frozen BK160.out 5; have hfz6_6 := blk_frozen BK160.out 6; have hfz6_7 := blk_frozen BK160.out 7; have hfz6_8 := blk_frozen BK160.out 8; have hfz6_9 := blk_frozen BK160.out 9; have hfz6_10 := blk_frozen BK160.out 10; have hfz6_11 := blk_frozen BK160.out 11; have hfz6_12 := blk_frozen BK160.out 12; obtain ⟨Ao7, co7, eo7⟩ := Kd.R_slice HO152.out; subst eo7; obtain ⟨Ao8, co8, eo8⟩ := Kd.R_slice HO155.out; subst eo8))
        go_roundg k1
        case measure => have := HK1.out; omega
        case rel => exact ⟨(wrap64 (x3_1 + t158)), (by first | rfl | (simp; done) | (simp [*]; done)), H', ⟨by have := HK1.out; omega⟩, ⟨by repeat (first | (with_reducible first | exact HB.out | apply below_alloc | apply pw_below_drewN | apply below_drew1 | refine below_set ?_ GE160.out) | exact HB.out)⟩⟩
      · rw [if_neg c3] at H
        have c3b0 : (t159 == 0) = false := beq_eq_false_iff_ne.mpr c3
        have c3b1 : (t159 != 0) = true := bne_iff_ne.mpr c3
        obtain rfl := Option.some.inj H
        go_wp2_with (first | ((with_reducible refine gate_callee (f := 30) rfl ?_); refine goesL_ (some 10) rfl rfl Tryz.func30 (by kernel_rfl) rfl #[.string a0, .int .i64 x3_1] rfl (by (try simp only [List.map_toArray, List.map_cons, List.map_nil]); first | done | rfl | (simp only [List.length_drop, List.length_take]; rfl)) ?_; (with_reducible refine (rec_Open.calls k1 a0 x3_1 t141 t142 t143 t144 t145 t146 t147 t148 t149 t150 t153 t156 t157 t158 t159 _ A2.out).mono ?_); rintro e w9 ⟨v151, v154, rfl, ho0, ho1, hb⟩; refine ⟨_, rfl, ?_⟩; have n0_ := Aside0.mk (Kd.R_lower ho0 (below_size (by repeat (first | (with_reducible first | exact HB.out | apply below_alloc | apply pw_below_drewN | apply below_drew1) | exact HB.out)))); have n1_ := Aside0.mk (Kd.R_lower ho1 (below_size (by repeat (first | (with_reducible first | exact HB.out | apply below_alloc | apply pw_below_drewN | apply below_drew1) | exact HB.out)))); have n2_ := Aside0.mk (below_step (by repeat (first | (with_reducible first | exact HB.out | apply below_alloc | apply pw_below_drewN | apply below_drew1) | exact HB.out)) hb); clear HB; have HO152 := n0_; have HO155 := n1_; have HB := n2_; clear n0_ n1_ n2_; (try clear hb); (try clear hb2); (try clear hk); (try clear hi); (try clear ho0); (try clear ho1)) | ((with_reducible refine gate_dst (N := 4) rfl ?_); refine box_event ?hg (N := 4) ?hd (cs := #[.int .i64 0, .int .i64 0, .int .i64 0, .int .i64 0, .int .i64 0, .string (⟨#[]⟩ : ByteArray), .string (⟨#[]⟩ : ByteArray), .string (⟨#[]⟩ : ByteArray), .int .i64 0, .slice none 0 0, .slice none 0 0, .int .i64 0, .int .i64 0]) (t := 33) ?hr ?_; (case hd => rfl); (case hg => rfl); (case hr => first | (go_simp; done) | (go_simp; rfl)); intro gb160 hg w10 hbox hb; have n0_ := Aside0.mk (Kd.R_below (by (with_reducible repeat (first | apply Kd.R_alloc | apply Kd.R_drewN | apply Kd.R_drew)); exact HO152.out) hb); have n1_ := Aside0.mk (Kd.R_below (by (with_reducible repeat (first | apply Kd.R_alloc | apply Kd.R_drewN | apply Kd.R_drew)); exact HO155.out) hb); have n2_ := Aside0.mk (below_step (by repeat (first | (with_reducible first | exact HB.out | apply below_alloc | apply pw_below_drewN | apply below_drew1) | exact HB.out)) hb); have n3_ := Aside0.mk (hbox); have n4_ := Aside0.mk ((by rw [hg]; exact (below_size (by repeat (first | (with_reducible first | exact HB.out | apply below_alloc | apply pw_below_drewN | apply below_drew1) | exact HB.out))) : w.heap.size ≤ gb160)); have n5_ := Aside0.mk ((by rw [hg]; exact (below_size (by repeat (first | (with_reducible first | exact HB.out | apply below_alloc | apply pw_below_drewN | apply below_drew1) | exact HB.out))) : w.heap.size ≤ gb160)); clear HO152; clear HO155; clear HB; have HO152 := n0_; have HO155 := n1_; have HB := n2_; have BK160 := n3_; have GW160 := n4_; have GE160 := n5_; clear n0_ n1_ n2_ n3_ n4_ n5_; clear hb hbox hg; have hcz11_0 : w10.cell? ⟨gb160, 0, none⟩ = some (.int .i64 0) := (blk_cell BK160.out 0).trans rfl; have hcz11_1 : w10.cell? ⟨gb160, 1, none⟩ = some (.int .i64 0) := (blk_cell BK160.out 1).trans rfl; have hcz11_2 : w10.cell? ⟨gb160, 2, none⟩ = some (.int .i64 0) := (blk_cell BK160.out 2).trans rfl; have hcz11_3 : w10.cell? ⟨gb160, 3, none⟩ = some (.int .i64 0) := (blk_cell BK160.out 3).trans rfl; have hcz11_4 : w10.cell? ⟨gb160, 4, none⟩ = some (.int .i64 0) := (blk_cell BK160.out 4).trans rfl; have hcz11_5 : w10.cell? ⟨gb160, 5, none⟩ = some (.string (⟨#[]⟩ : ByteArray)) := (blk_cell BK160.out 5).trans rfl; have hcz11_6 : w10.cell? ⟨gb160, 6, none⟩ = some (.string (⟨#[]⟩ : ByteArray)) := (blk_cell BK160.out 6).trans rfl; have hcz11_7 : w10.cell? ⟨gb160, 7, none⟩ = some (.string (⟨#[]⟩ : ByteArray)) := (blk_cell BK160.out 7).trans rfl; have hcz11_8 : w10.cell? ⟨gb160, 8, none⟩ = some (.int .i64 0) := (blk_cell BK160.out 8).trans rfl; have hcz11_9 : w10.cell? ⟨gb160, 9, none⟩ = some (.slice none 0 0) := (blk_cell BK160.out 9).trans rfl; have hcz11_10 : w10.cell? ⟨gb160, 10, none⟩ = some (.slice none 0 0) := (blk_cell BK160.out 10).trans rfl; have hcz11_11 : w10.cell? ⟨gb160, 11, none⟩ = some (.int .i64 0) := (blk_cell BK160.out 11).trans rfl; have hcz11_12 : w10.cell? ⟨gb160, 12, none⟩ = some (.int .i64 0) := (blk_cell BK160.out 12).trans rfl; have hfz11_0 := blk_frozen BK160.out 0; have hfz11_1 := blk_frozen BK160.out 1; have hfz11_2 := blk_frozen BK160.out 2; have hfz11_3 := blk_frozen BK160.out 3; have hfz11_4 := blk_frozen BK160.out 4; have hfz11_5 := blk_frozen BK160.out 5; have hfz11_6 := blk_frozen BK160.out 6; have hfz11_7 := blk_frozen BK160.out 7; have hfz11_8 := blk_frozen BK160.out 8; have hfz11_9 := blk_frozen BK160.out 9; have hfz11_10 := blk_frozen BK160.out 10; have hfz11_11 := blk_frozen BK160.out 11; have hfz11_12 := blk_frozen BK160.out 12; obtain ⟨Ao12, co12, eo12⟩ := Kd.R_slice HO152.out; subst eo12; obtain ⟨Ao13, co13, eo13⟩ := Kd.R_slice HO155.out; subst eo13))
        go_ret
        exact ⟨by first | rfl | (simp [errW_none, errW_some] <;> rfl) | (simp [*, errW_none, errW_some] <;> rfl), by repeat (first | (with_reducible first | exact HB.out | apply below_alloc | apply pw_below_drewN | apply below_drew1 | refine below_set ?_ GE160.out) | exact HB.out)⟩

end Go.Proofs.YteoebfiacnploaaGreatDoor.HRec
