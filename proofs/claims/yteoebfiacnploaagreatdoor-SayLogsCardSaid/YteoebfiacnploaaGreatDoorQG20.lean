/- Texts of this proof, put together: WalF, WalG, HookRj, WalC. They prove no statement. -/
import Derived.Test.YteoebfiacnploaaGreatDoorQG19
import Derived.Test.YteoebfiacnploaaGreatDoorQFpackWriterAll
import Derived.Test.YteoebfiacnploaaGreatDoorQG4
import Derived.Test.YteoebfiacnploaaGreatDoorQHookRg
import Derived.Test.YteoebfiacnploaaGreatDoorQG7
import Derived.Test.YteoebfiacnploaaGreatDoorQFsumSeal
import Derived.Test.YteoebfiacnploaaGreatDoorQPureTot
import Derived.Test.YteoebfiacnploaaGreatDoorQG14
namespace Go.Proofs.YteoebfiacnploaaGreatDoor.HRec
open Go.RowKit Go.Proofs.YteoebfiacnploaaGreatDoorW.PrintWords Go.Proofs.YteoebfiacnploaaGreatDoorW.PrintLast Go.Proofs.YteoebfiacnploaaGreatDoorW.PrintMore
open Go.ChangeMaps (setBlock)
attribute [local go_sem] max2_int min2_int max_two min_two
set_option linter.unusedVariables false
set_option linter.unusedSimpArgs false
def log_write.T3 : Bool × List (List Nat × List Nat) := (true, [([], []), ([0], [0]), ([1], [1]), ([2], [2]), ([], []), ([4], [4]), ([], []), ([6], [6]), ([7], [7]), ([8], [8]), ([9], [9]), ([5, 10], [5, 10]), ([], []), ([12], [12]), ([13], [13]), ([], []), ([15], [15]), ([16], [16]), ([17], [17]), ([18], [18]), ([14, 19], [14, 19]), ([3, 11, 20], [3, 11, 20]), ([21, 0, 1, 2, 3, 4, 5, 6, 7, 8, 9, 10, 11, 12, 13, 14, 15, 16, 17, 18, 19, 20, 21], [21])])
def log_write.B3 : List Nat := [0, 1, 3, 7, 0, 16, 0, 64, 192, 448, 960, 2032, 0, 4096, 12288, 0, 32768, 98304, 229376, 491520, 1044480, 2097151, 4194303]
theorem log_write.tab3 : rtab .any (opsOf Tryz.f49 3) = log_write.T3 := by kernel_rfl
theorem log_write.bits3 : waitsOk log_write.T3.2 log_write.B3 = true := by kernel_rfl
def log_write.T8 : Bool × List (List Nat × List Nat) := (true, [([], []), ([0], [0]), ([1], [1]), ([2], [2]), ([], []), ([4], [4]), ([5], [5]), ([6], [6]), ([], []), ([7, 8], [7, 8]), ([], []), ([], []), ([10, 11], [10, 11]), ([3, 9, 12], [3, 9, 12]), ([13, 13, 0, 1, 2, 3, 4, 5, 6, 7, 8, 9, 10, 11, 12, 13], [13])])
def log_write.B8 : List Nat := [0, 1, 3, 7, 0, 16, 48, 112, 0, 496, 0, 0, 3072, 8191, 16383]
theorem log_write.tab8 : rtab .any (opsOf Tryz.f49 8) = log_write.T8 := by kernel_rfl
theorem log_write.bits8 : waitsOk log_write.T8.2 log_write.B8 = true := by kernel_rfl
set_option maxHeartbeats 8000000 in
set_option maxRecDepth 100000 in
theorem log_write (L d m : Nat) (A : Option Addr) (c : Nat) (acts : Int) (w0 w : World) (hL : IsLog w L d 0 200 1 ⟨#[]⟩ 0) (h : IsDisk w d m A 200 c acts) (hm : w.heap[m]? = some (.map #[] 0)) (hmd : m < d) (hB : Below w0.heap.size w0 w) (hm0 : w0.heap.size ≤ m) (ha0 : 0 ≤ acts) (ha1 : acts ≤ 1000000) :
    Calls Tryz.prog 49 #[.pointer (some ⟨L, 0, none⟩), .int .i64 0] w fun e w' => e = .returned (.int .i64 0) ∧ ∃ v : ByteArray, IsDisk w' d m A 200 c (acts + 1) ∧ w'.heap[m]? = some (.map #[⟨.int .i64 0, .string v, 0⟩] 1) ∧ Below w0.heap.size w0 w' ∧ KeepX d m w w' := by
  have HL := Aside0.mk hL; have HD := Aside0.mk h; have HM := Aside0.mk hm
  have HLT := Aside0.mk (Array.getElem?_eq_some_iff.1 hm).1
  have HMD := Aside0.mk hmd; have HB := Aside0.mk hB; have HM0 := Aside0.mk hm0; have HA0 := Aside0.mk ha0; have HA1 := Aside0.mk ha1; have c2 := IsLog.at_2 hL; clear hL h hm hmd hB hm0 ha0 ha1
  obtain ⟨s1, e1, q1, z1, _⟩ := wnum_tot ⟨#[]⟩ 0 1 4 (by decide)
  obtain ⟨s2, e2, q2, z2, _⟩ := wnum_tot s1 e1 0 2 (by rw [empty_size] at z1; omega)
  rw [empty_size] at z1
  have Q1 := Aside0.mk q1; have Q2 := Aside0.mk q2
  have hz2 : s2.size ≤ 12 := by omega
  have HSZ : Aside0 (s2.size ≤ 64) := ⟨by omega⟩
  have hb3 : (9223372036854775807 < s2.size) = False := eq_false (by omega)
  clear q1 q2 z1 z2 hz2; have hu114 := Tryz.underlying120
  have hw0 : wrap64 0 = 0 := by kernel_rfl
  have hw1 : wrap64 1 = 1 := by kernel_rfl
  have hw58 : wrap64 58 = 58 := by kernel_rfl
  go_enter Tryz.func49, Tryz.ntmps49
  go_wp2_with fail
  clear c2
  refine start_ (n := 23) (S := fun w' => Below w.drew.heap.size w.drew w') (ds := []) #[false, false, false, false, false, false, false, false, false, false, false, false, false, false, false, false, false, false, false, false, false, false, false] (by kernel_rfl) rfl rfl (Below.refl _ _) (fun hHeld => ?_); refine with_tabW log_write.tab3 log_write.bits3 (fun HT_ HW_ => ?_)
  refine ord_ [0, 1, 2, 3, 4, 5, 6, 7, 8, 9, 10, 11, 12, 13, 14, 15, 16, 17, 18, 19, 20, 21, 22] ?_
  have B0 := Aside0.mk (below_drew (Below.refl w.heap.size w)); have f1_ := Aside0.mk (IsLog.at_4 (IsLog.below HL.out B0.out))
  generalize w.drew = W0 at B0 f1_ hHeld ⊢
  iterate 23
    first
    | refine ordP (v := ?_) (a' := ?_) HT_ rfl rfl (by kernel_rfl) (fun _ _ _ h => h) (.inl ⟨by rfl, ?_⟩) ?_ ?_
      rotate_left
      · intro w'
        go_simp
        with_reducible rfl
      rotate_left
      · simp only [Act.put, List.setIfInBounds_toArray, List.set_cons_zero, List.set_cons_succ, i64_w, i32_w]
        rfl
    | refine ordT (v := ?_) (a' := ?_) HT_ HW_ rfl rfl (by kernel_rfl) (fun _ _ _ h => h) (.inl ⟨by rfl, ?_⟩) hHeld ?_ ?_
      rotate_left
      · intro w' hs
        have s1 := below_cell hs f1_.out
        go_simp
        with_reducible rfl
      rotate_left
      · simp only [Act.put, List.setIfInBounds_toArray, List.set_cons_zero, List.set_cons_succ, i64_w, i32_w]
        rfl
  refine ordD HT_ (by kernel_rfl) ?_
  have I1 := Aside0.mk (IsS114.new w W0 ⟨#[]⟩ 0 B0.out)
  have B1 := Aside0.mk (below_alloc B0.out (.cells #[.string ⟨#[]⟩, .int .i64 0] 120))
  have c13 := IsLog.at_3 (IsLog.below HL.out B1.out); clear hHeld f1_ HT_ HW_
  go_wp2_with fail
  refine (pack_Writer_Num.calls W0.heap.size ⟨#[]⟩ 0 1 4 s1 e1 w _ I1.out B1.out Q1.out).mono ?_
  rintro e w5 ⟨rfl, hi, hb, _⟩
  have I5 := Aside0.mk hi; have B5 := Aside0.mk hb; clear hi hb I1 B1 c13
  go_wp2_with fail
  refine (pack_Writer_Num.calls W0.heap.size s1 e1 0 2 s2 e2 w w5 I5.out B5.out Q2.out).mono ?_
  rintro e w6 ⟨rfl, hi, hb, _⟩
  have I6 := Aside0.mk hi; have B6 := Aside0.mk hb; clear hi hb I5 B5
  go_wp2_with fail
  refine (pack_Writer_All.calls W0.heap.size s2 e2 s2 e2 s2 e2 w w6 I6.out B6.out rfl).mono ?_
  rintro e w7 ⟨rfl, hi, hb, _⟩
  have B7 := Aside0.mk hb; clear hi hb I6 B6
  go_wp2_with fail
  refine start_ (n := 15) (S := fun w' => Below w7.drew.heap.size w7.drew w') (ds := [13]) #[false, false, false, false, false, false, false, false, false, false, false, false, false, false, false] (by kernel_rfl) rfl rfl (Below.refl _ _) (fun hHeld => ?_); refine with_tabW log_write.tab8 log_write.bits8 (fun HT_ HW_ => ?_)
  refine ord_ [0, 1, 2, 3, 4, 5, 6, 7, 8, 9, 10, 11, 12, 13, 14] ?_
  have B8 := Aside0.mk (below_drew B7.out); have f1_ := Aside0.mk (IsLog.at_0 (IsLog.below HL.out B8.out)); have f2_ := Aside0.mk (IsLog.at_1 (IsLog.below HL.out B8.out))
  generalize w7.drew = W8 at B8 f1_ f2_ hHeld ⊢
  iterate 13
    first
    | refine ordP (v := ?_) (a' := ?_) HT_ rfl rfl (by kernel_rfl) (fun _ _ _ h => h) (.inl ⟨by rfl, ?_⟩) ?_ ?_
      rotate_left
      · intro w'
        go_simp
        with_reducible rfl
      rotate_left
      · simp only [Act.put, List.setIfInBounds_toArray, List.set_cons_zero, List.set_cons_succ, i64_w, i32_w]
        rfl
    | refine ordT (v := ?_) (a' := ?_) HT_ HW_ rfl rfl (by kernel_rfl) (fun _ _ _ h => h) (.inl ⟨by rfl, ?_⟩) hHeld ?_ ?_
      rotate_left
      · intro w' hs
        have s1 := below_cell hs f1_.out; have s2 := below_cell hs f2_.out
        go_simp
        with_reducible rfl
      rotate_left
      · simp only [Act.put, List.setIfInBounds_toArray, List.set_cons_zero, List.set_cons_succ, i64_w, i32_w]
        rfl
  refine ordL (N := some 67) HT_ rfl rfl (by kernel_rfl) (by decide) (fun K hK => ?_)
  refine goes_ Tryz.func76 (by kernel_rfl) rfl #[.pointer (some ⟨d, 0, none⟩), .int .i64 (wrap64 0), .string s2] (by rfl) rfl rfl (by (try simp only [List.map_toArray, List.map_cons, List.map_nil]); rfl) ?_
  rw [show wrap64 0 = 0 from by kernel_rfl]
  refine (disk_Write d m A c acts 0 s2 w0 W8 (IsDisk.below HD.out B8.out) ((B8.out.block m HLT.out).trans HM.out) (Nat.ne_of_lt HMD.out) (below_step HB.out B8.out) (Nat.le_trans HM0.out (Nat.le_of_lt HMD.out)) HM0.out (by omega) (by omega) HA0.out HA1.out HSZ.out).mono ?_
  rintro e w9 ⟨rfl, hd9, hm9, hb9, hk9⟩
  refine ⟨_, rfl, ?_⟩
  refine hK.out _ _ ?_
  clear hK K; have D9 := Aside0.mk hd9; have M9 := Aside0.mk hm9; have B9 := Aside0.mk hb9; have K9 := Aside0.mk hk9; clear hd9 hm9 hb9 hk9
  refine ordN (a' := ?_) ?_ ?_
  rotate_left
  · simp only [Act.put, List.setIfInBounds_toArray, List.set_cons_zero, List.set_cons_succ]
    rfl
  refine ordP (v := ?_) (a' := ?_) HT_ rfl rfl (by kernel_rfl) (fun _ _ _ h => h) (.inl ⟨by rfl, ?_⟩) ?_ ?_
  rotate_left
  · intro w'
    go_simp
    with_reducible rfl
  rotate_left
  · simp only [Act.put, List.setIfInBounds_toArray, List.set_cons_zero, List.set_cons_succ, i64_w, i32_w]
    rfl
  refine ordD HT_ (by kernel_rfl) ?_
  go_wp2_with fail
  go_ret
  exact ⟨rfl, _, D9.out, M9.out, B9.out, ⟨Nat.le_trans B8.out.size K9.out.1, fun i hi hg hh => (K9.out.2 i (Nat.lt_of_lt_of_le hi B8.out.size) hg hh).trans (B8.out.block i hi)⟩⟩
set_option maxHeartbeats 8000000 in
set_option maxRecDepth 100000 in
theorem log_mend (L d m : Nat) (A : Option Addr) (c : Nat) (acts : Int) (xs : List ByteArray) (w0 w : World) (hL : IsLog w L d 0 200 1 ⟨#[]⟩ 0) (h : IsDisk w d m A 200 c acts) (hm : w.heap[m]? = some (.map #[] 0)) (hr : Kd.R Kd.string 9 w w0.heap.size (fun k => k < m) (.slice A 200 c) xs) (hmd : m < d) (hdL : d < L) (hB : Below w0.heap.size w0 w) (hm0 : w0.heap.size ≤ m) (ha0 : 0 ≤ acts) (ha1 : acts ≤ 100000) :
    Calls Tryz.prog 26 #[.pointer (some ⟨L, 0, none⟩)] w fun e w' => e = .returned (.int .i64 0) ∧ IsLog w' L d 0 200 1 ⟨#[]⟩ 0 ∧ Below w0.heap.size w0 w' := by
  have HL := Aside0.mk hL; have HW := Aside0.mk (log_write L d m A c acts w0 w hL h hm hmd hB hm0 ha0 (by omega)); have HR := Aside0.mk hr; have HMD := Aside0.mk hmd; have HDL := Aside0.mk hdL; have HM0 := Aside0.mk hm0; have HA0 := Aside0.mk ha0; have HA1 := Aside0.mk ha1; have c5 := IsLog.at_5 hL
  have hLt : L < w.heap.size := (Array.getElem?_eq_some_iff.1 hL).1
  have HLT := Aside0.mk hLt; clear hL h hm hr hmd hdL hB hm0 ha0 ha1 hLt
  go_enter Tryz.func26, Tryz.ntmps26
  go_wp2_with fail
  refine HW.out.mono ?_
  rintro e w1 ⟨rfl, v, hd1, hm1, hb1, hk1⟩
  have R1 := Aside0.mk (Kd.R_step HR.out (fun k ho hk => hk1.2 k hk (by have := HMD.out; omega) (by omega)))
  have L1 : Aside0 (IsLog w1 L d 0 200 1 ⟨#[]⟩ 0) := ⟨(hk1.2 L HLT.out (by have := HDL.out; omega) (by have := HDL.out; have := HMD.out; omega)).trans HL.out⟩
  have HS := Aside0.mk (disk_Sync d m A c (acts + 1) 0 v xs w0 w1 hd1 hm1 R1.out HMD.out hb1 HM0.out (by omega) (by omega) (by have := HA0.out; omega) (by have := HA1.out; omega))
  have hL1 : L < w1.heap.size := (Array.getElem?_eq_some_iff.1 L1.out).1
  have HL1 := Aside0.mk hL1; have c10 := IsLog.at_0 L1.out; clear hd1 hm1 hb1 hk1 HW R1 hL1 c5
  go_wp2_with fail
  refine HS.out.mono ?_
  rintro e w2 ⟨rfl, hb2, hk2⟩
  have L2 : Aside0 (IsLog w2 L d 0 200 1 ⟨#[]⟩ 0) := ⟨(hk2 L HDL.out HL1.out).trans L1.out⟩
  have B2 := Aside0.mk hb2; clear hb2 hk2 c10 HS
  go_wp2_with fail
  refine (log_down L w2).mono ?_
  rintro e w3 ⟨rfl, hw⟩
  rw [hw]
  clear hw w3
  go_wp2_with fail
  go_ret
  exact ⟨rfl, L2.out, B2.out⟩
end Go.Proofs.YteoebfiacnploaaGreatDoor.HRec
namespace Go.Proofs.YteoebfiacnploaaGreatDoor.HRec
open Go.RowKit Go.Proofs.YteoebfiacnploaaGreatDoorW.PrintWords Go.Proofs.YteoebfiacnploaaGreatDoorW.PrintLast Go.Proofs.YteoebfiacnploaaGreatDoorW.PrintMore
set_option linter.unusedVariables false
set_option linter.unusedSimpArgs false
theorem whole_nil : wal_whole.f 10 ⟨#[]⟩ = some 0 := by kernel_rfl
theorem IsLog.set_5 {W : World} {L d : Nat} {base sectors run : Int} {all : ByteArray} {dur : Int} (h : IsLog W L d base sectors run all dur) (x : Int) : IsLog (W.setCell ⟨L, 5, none⟩ (.int .i64 x)) L d base sectors run all x := by unfold IsLog; simpa using blk_set h 5 (.int .i64 x)
set_option maxHeartbeats 8000000 in
set_option maxRecDepth 100000 in
theorem wal_Open (d m : Nat) (A : Option Addr) (c : Nat) (w0 w : World) (h : IsDisk w d m A 200 c 0) (hm : w.heap[m]? = some (.map #[] 0)) (hr : Kd.R Kd.string 9 w w0.heap.size (fun k => k < m) (.slice A 200 c) (List.replicate 200 ⟨#[]⟩)) (hmd : m < d) (hB : Below w0.heap.size w0 w) (hm0 : w0.heap.size ≤ m) :
    Calls Tryz.prog 11 #[.pointer (some ⟨d, 0, none⟩), .int .i64 0, .int .i64 200, .int .i64 1] w fun e w' => ∃ L, e = .returned (.tuple #[.pointer (some ⟨L, 0, none⟩), .int .i64 0]) ∧ IsLog w' L d 0 200 1 ⟨#[]⟩ 0 ∧ w0.heap.size ≤ L ∧ Below w0.heap.size w0 w' := by
  have HC := Aside0.mk (wal_check d m A c 0 w h); have hu59 := Tryz.underlying47
  have hdl : d < w.heap.size := (Array.getElem?_eq_some_iff.1 h).1
  have hml : m < w.heap.size := (Array.getElem?_eq_some_iff.1 hm).1
  have hl0 : w0.heap.size ≤ w.heap.size := hB.size
  have L1 : Aside0 (IsLog (w.alloc (.cells #[.pointer (some ⟨d, 0, none⟩), .int .i64 0, .int .i64 200, .int .i64 1, .string ⟨#[]⟩, .int .i64 0, .bool false] 47)) w.heap.size d 0 200 1 ⟨#[]⟩ 0) := ⟨blk_new w _⟩
  have D1 := Aside0.mk (IsDisk.below h (below_alloc (Below.refl _ _) (.cells #[.pointer (some ⟨d, 0, none⟩), .int .i64 0, .int .i64 200, .int .i64 1, .string ⟨#[]⟩, .int .i64 0, .bool false] 47)))
  have M1 := Aside0.mk ((Below.heap_alloc w (.cells #[.pointer (some ⟨d, 0, none⟩), .int .i64 0, .int .i64 200, .int .i64 1, .string ⟨#[]⟩, .int .i64 0, .bool false] 47) m hml).trans hm)
  have R1 := Aside0.mk (Kd.R_alloc hr (.cells #[.pointer (some ⟨d, 0, none⟩), .int .i64 0, .int .i64 200, .int .i64 1, .string ⟨#[]⟩, .int .i64 0, .bool false] 47))
  have B1 := Aside0.mk (below_alloc hB (.cells #[.pointer (some ⟨d, 0, none⟩), .int .i64 0, .int .i64 200, .int .i64 1, .string ⟨#[]⟩, .int .i64 0, .bool false] 47))
  have HS := Aside0.mk (log_scan w.heap.size d m A c 0 _ L1.out D1.out M1.out (Kd.R_reads' R1.out).2.2)
  have HMD := Aside0.mk hmd; have HM0 := Aside0.mk hm0; clear h hm hr hmd hB hm0
  go_enter Tryz.func11, Tryz.ntmps11
  go_wp2_with fail
  refine HC.out.mono ?_
  rintro e w1 ⟨rfl, hw⟩
  rw [hw]
  clear hw w1 HC
  go_wp2_with fail
  generalize w.alloc (.cells #[.pointer (some ⟨d, 0, none⟩), .int .i64 0, .int .i64 200, .int .i64 1, .string ⟨#[]⟩, .int .i64 0, .bool false] 47) = W1 at *
  refine HS.out.mono ?_
  rintro e w2 ⟨rfl, hb⟩
  have L2 := Aside0.mk (IsLog.below L1.out hb); have D2 := Aside0.mk (IsDisk.below D1.out hb)
  have M2 := Aside0.mk ((hb.block m (Array.getElem?_eq_some_iff.1 M1.out).1).trans M1.out)
  have R2 := Aside0.mk (Kd.R_below R1.out hb); have B2 := Aside0.mk (below_step B1.out hb); clear hb HS L1 D1 M1 R1 B1
  go_wp2_with fail
  refine (wal_whole.calls 10 ⟨#[]⟩ 0 w2 whole_nil).mono ?_
  rintro e w3 ⟨rfl, hb⟩
  have L3 := Aside0.mk (IsLog.below L2.out hb); have D3 := Aside0.mk (IsDisk.below D2.out hb)
  have M3 := Aside0.mk ((hb.block m (Array.getElem?_eq_some_iff.1 M2.out).1).trans M2.out)
  have R3 := Aside0.mk (Kd.R_below R2.out hb); have B3 := Aside0.mk (below_step B2.out hb); clear hb L2 D2 M2 R2 B2; have c4 := IsLog.at_4 L3.out; have f4 := IsLog.free L3.out 4; have c5 := IsLog.at_5 L3.out; have f5 := IsLog.free L3.out 5
  go_wp2_with fail
  have ho : ∀ k, k ≠ w.heap.size → ((w3.setCell ⟨w.heap.size, 4, none⟩ (.string ByteArray.empty)).setCell ⟨w.heap.size, 5, none⟩ (.int .i64 0)).heap[k]? = w3.heap[k]? := fun k hk => (Below.heap_setCell _ _ _ k hk).trans (Below.heap_setCell _ _ _ k hk)
  have L4 : IsLog ((w3.setCell ⟨w.heap.size, 4, none⟩ (.string ByteArray.empty)).setCell ⟨w.heap.size, 5, none⟩ (.int .i64 0)) w.heap.size d 0 200 1 ⟨#[]⟩ 0 := IsLog.set_5 (IsLog.set_4 L3.out ByteArray.empty) 0
  have D4 : IsDisk ((w3.setCell ⟨w.heap.size, 4, none⟩ (.string ByteArray.empty)).setCell ⟨w.heap.size, 5, none⟩ (.int .i64 0)) d m A 200 c 0 := (ho d (Nat.ne_of_lt hdl)).trans D3.out
  have M4 := (ho m (Nat.ne_of_lt hml)).trans M3.out
  have R4 : Kd.R Kd.string 9 ((w3.setCell ⟨w.heap.size, 4, none⟩ (.string ByteArray.empty)).setCell ⟨w.heap.size, 5, none⟩ (.int .i64 0)) w0.heap.size (fun k => k < m) (.slice A 200 c) (List.replicate 200 ⟨#[]⟩) := Kd.R_step R3.out (fun k hk _ => ho k (Nat.ne_of_lt (Nat.lt_trans hk hml)))
  have B4 := below_set (j := 5) (v := .int .i64 0) (below_set (j := 4) (v := .string ByteArray.empty) B3.out hl0) hl0
  have HE := Aside0.mk (log_mend w.heap.size d m A c 0 (List.replicate 200 ⟨#[]⟩) w0 ((w3.setCell ⟨w.heap.size, 4, none⟩ (.string ByteArray.empty)).setCell ⟨w.heap.size, 5, none⟩ (.int .i64 0)) L4 D4 M4 R4 HMD.out hdl B4 HM0.out (by omega) (by omega))
  clear L4 D4 M4 R4 B4 ho L3 D3 M3 R3 B3 c4 f4 c5 f5
  refine HE.out.mono ?_
  rintro e w5 ⟨rfl, hl, hb⟩
  have L5 := Aside0.mk hl; have B5 := Aside0.mk hb; clear hl hb HE
  go_wp2_with fail
  go_ret2
  exact ⟨_, rfl, L5.out, hl0, B5.out⟩
end Go.Proofs.YteoebfiacnploaaGreatDoor.HRec
namespace Go.Proofs.YteoebfiacnploaaGreatDoor.HRec
open Go.RowKit Go.Proofs.YteoebfiacnploaaGreatDoorW.PrintWords Go.Proofs.YteoebfiacnploaaGreatDoorW.PrintLast Go.Proofs.YteoebfiacnploaaGreatDoorW.PrintMore
set_option linter.unusedVariables false
set_option linter.unusedSimpArgs false
/-- A record's frame: its bytes, or the error. -/
def frameF (y : RecT) : Option (ByteArray × Int) :=
  (rec_body.f y.1 y.2.1 y.2.2.1 y.2.2.2.1 y.2.2.2.2.1 y.2.2.2.2.2.1 y.2.2.2.2.2.2.1 y.2.2.2.2.2.2.2.1 y.2.2.2.2.2.2.2.2.1 y.2.2.2.2.2.2.2.2.2.1 y.2.2.2.2.2.2.2.2.2.2.1 y.2.2.2.2.2.2.2.2.2.2.2.1 y.2.2.2.2.2.2.2.2.2.2.2.2).bind fun b =>
    if b.2 = 0 then (pack_Put.f 20 ⟨#[]⟩ (b.1.size : Int) 2).bind fun p => (sum_Seal.f 20 b.1).bind fun t => if p.1.size + t.size ≤ 9223372036854775807 then some (p.1 ++ t, 0) else none
    else some (⟨#[]⟩, b.2)
theorem frame_tot (y : RecT) (h9 : y.2.2.2.2.2.2.2.2.2.1.length ≤ 9223372036854775807) : ∃ s e, frameF y = some (s, e) ∧ s.size ≤ 5000 := by
  obtain ⟨y0, y1, y2, y3, y4, y5, y6, y7, y8, y9, y10, y11, y12⟩ := y
  obtain ⟨s, e, q, z⟩ := body_tot y0 y1 y2 y3 y4 y5 y6 y7 y8 y9 y10 y11 y12 h9
  unfold frameF
  dsimp only
  rw [q, Option.bind_some]
  dsimp only
  by_cases he : e = 0
  · obtain ⟨p, e2, q2, z2, _⟩ := put_tot 20 ⟨#[]⟩ (s.size : Int) 2 (by omega) (by decide)
    obtain ⟨t, q3, z3⟩ := Seal_tot 20 s (by omega) z
    rw [empty_size] at z2
    rw [if_pos he, q2, Option.bind_some, q3, Option.bind_some]
    dsimp only
    rw [if_pos (by omega)]
    exact ⟨_, _, rfl, by rw [ByteArray.size_append]; omega⟩
  · rw [if_neg he]
    exact ⟨_, _, rfl, Nat.zero_le _⟩
set_option maxHeartbeats 8000000 in
set_option maxRecDepth 100000 in
theorem rec_Frame.calls (x0 x1 x2 x3 x4 : Int) (k o n : ByteArray) (x8 : Int) (A9 : Option Addr) (c9 : Nat) (l9 : List S144) (A10 : Option Addr) (c10 : Nat) (l10 : List S36) (x11 x12 : Int) (r1 : ByteArray) (r2 : Int) (w : World) (hr9 : Kd.C k144 w A9 l9.length l9) (hc9 : l9.length ≤ c9) (hr10 : Kd.C k36 w A10 l10.length l10) (hc10 : l10.length ≤ c10) (h : frameF (cleanR x0 x1 x2 x3 x4 k o n x8 l9 l10 x11 x12) = some (r1, r2)) :
    Calls Tryz.prog 28 #[.agg #[.int .i64 x0, .int .i64 x1, .int .i64 x2, .int .i64 x3, .int .i64 x4, .string k, .string o, .string n, .int .i64 x8, .slice A9 l9.length c9, .slice A10 l10.length c10, .int .i64 x11, .int .i64 x12]] w fun e w' => e = .returned (.tuple #[.string r1, .int .i64 r2]) ∧ Below w.heap.size w w' := by
  have hu32 := Tryz.underlying33
  have HC := Aside0.mk (rec_Clean.calls x0 x1 x2 x3 x4 k o n x8 A9 c9 l9 A10 c10 l10 x11 x12 (w.alloc (.cells #[.int .i64 x0, .int .i64 x1, .int .i64 x2, .int .i64 x3, .int .i64 x4, .string k, .string o, .string n, .int .i64 x8, .slice A9 l9.length c9, .slice A10 l10.length c10, .int .i64 x11, .int .i64 x12] 33)) (Kd.C_alloc hr9 _) hc9 (Kd.C_alloc hr10 _) hc10)
  have HB := Aside0.mk (below_alloc (Below.refl w.heap.size w) (.cells #[.int .i64 x0, .int .i64 x1, .int .i64 x2, .int .i64 x3, .int .i64 x4, .string k, .string o, .string n, .int .i64 x8, .slice A9 l9.length c9, .slice A10 l10.length c10, .int .i64 x11, .int .i64 x12] 33))
  clear hr9 hc9 hr10 hc10
  generalize cleanR x0 x1 x2 x3 x4 k o n x8 l9 l10 x11 x12 = y at *
  obtain ⟨y0, y1, y2, y3, y4, y5, y6, y7, y8, y9, y10, y11, y12⟩ := y
  unfold frameF at h
  dsimp only at h
  replace h := Option.bind_eq_some_iff.mp h
  obtain ⟨⟨t, e⟩, A3, h⟩ := h
  have A3 := Aside0.mk A3; have H := Aside0.mk h; clear h
  go_enter Tryz.func28, Tryz.ntmps28
  go_wp2_with fail
  refine HC.out.mono ?_
  rintro e0 w1 ⟨v, rfl, ⟨B9, d9, B10, d10, rfl, g9, z9, g10, z10⟩, hb⟩
  have HB1 := Aside0.mk (below_step HB.out hb); have G9 := Aside0.mk (Kd.C_below g9 hb); have G10 := Aside0.mk (Kd.C_below g10 hb); have Z9 := Aside0.mk z9; have Z10 := Aside0.mk z10; clear hb g9 g10 z9 z10 HB HC
  go_wp2_with fail
  refine (rec_body.calls y0 y1 y2 y3 y4 y5 y6 y7 y8 B9 d9 y9 B10 d10 y10 y11 y12 t e w1 G9.out Z9.out G10.out Z10.out A3.out).mono ?_
  rintro e0 w2 ⟨rfl, hb⟩
  have HB2 := Aside0.mk (below_step HB1.out hb); clear hb HB1 G9 G10 Z9 Z10 A3
  by_cases he : e = 0
  · have h := H.out
    (try dsimp only at h)
    rw [if_pos he] at h
    have b0 : (e != 0) = false := bne_eq_false_iff_eq.mpr he
    clear he
    replace h := Option.bind_eq_some_iff.mp h
    obtain ⟨⟨p, ep⟩, A4, h⟩ := h
    replace h := Option.bind_eq_some_iff.mp h
    obtain ⟨q, A5, h⟩ := h
    (try dsimp only at h)
    by_cases hz : p.size + q.size ≤ 9223372036854775807
    · rw [if_pos hz] at h
      simp only [Option.some.injEq, Prod.mk.injEq] at h
      obtain ⟨rfl, rfl⟩ := h
      have A4 := Aside0.mk A4; have A5 := Aside0.mk A5; clear H
      go_wp2_with fail
      refine (pack_Put.calls 20 ⟨#[]⟩ (t.size : Int) 2 p ep w2 A4.out).mono ?_
      rintro e0 w3 ⟨rfl, hb⟩
      have HB3 := Aside0.mk (below_step HB2.out hb); clear hb HB2 A4
      go_wp2_with fail
      refine (sum_Seal.calls 20 t q w3 A5.out).mono ?_
      rintro e0 w4 ⟨rfl, hb⟩
      have HB4 := Aside0.mk (below_step HB3.out hb); clear hb HB3 A5
      go_wp2_with fail
      go_ret2
      exact ⟨rfl, HB4.out⟩
    · rw [if_neg hz] at h
      exact absurd h (by simp)
  · have h := H.out
    (try dsimp only at h)
    rw [if_neg he] at h
    have b0 : (e != 0) = true := bne_iff_ne.mpr he
    simp only [Option.some.injEq, Prod.mk.injEq] at h
    obtain ⟨rfl, rfl⟩ := h
    clear H he
    go_wp2_with fail
    go_ret2
    exact ⟨rfl, HB2.out⟩
end Go.Proofs.YteoebfiacnploaaGreatDoor.HRec
namespace Go.Proofs.YteoebfiacnploaaGreatDoor.HRec
open Go.RowKit Go.Proofs.YteoebfiacnploaaGreatDoorW.PrintWords Go.Proofs.YteoebfiacnploaaGreatDoorW.PrintLast Go.Proofs.YteoebfiacnploaaGreatDoorW.PrintMore
set_option linter.unusedVariables false
set_option linter.unusedSimpArgs false
/-- What an Append makes of a log's bytes, out of the frame or its error; where; the error. -/
def appF (all s : ByteArray) (e : Int) : ByteArray × Int × Int := if e = 0 then addF all s else (all, 0, e)
theorem addF_size (all s : ByteArray) (h : all.size ≤ 11600) : (addF all s).1.size ≤ 11600 := by
  unfold addF
  by_cases hc : (s.size : Int) > 11600 - (all.size : Int)
  · rw [if_pos hc]; exact h
  · rw [if_neg hc]; show (all ++ s).size ≤ 11600; rw [ByteArray.size_append]; omega
theorem appF_size (all s : ByteArray) (e : Int) (h : all.size ≤ 11600) : (appF all s e).1.size ≤ 11600 := by
  unfold appF
  by_cases hc : e = 0
  · rw [if_pos hc]; exact addF_size all s h
  · rw [if_neg hc]; exact h
set_option maxHeartbeats 8000000 in
set_option maxRecDepth 100000 in
theorem log_Append (L d : Nat) (base run : Int) (all : ByteArray) (dur : Int) (x0 x1 x2 x3 x4 : Int) (k o n : ByteArray) (x8 : Int) (A9 : Option Addr) (c9 : Nat) (l9 : List S144) (A10 : Option Addr) (c10 : Nat) (l10 : List S36) (x11 x12 : Int) (s : ByteArray) (e : Int) (w0 w : World) (h : IsLog w L d base 200 run all dur) (hs : all.size ≤ 11600) (hB : Below w0.heap.size w0 w) (hL : w0.heap.size ≤ L) (hr9 : Kd.C k144 w A9 l9.length l9) (hc9 : l9.length ≤ c9) (hr10 : Kd.C k36 w A10 l10.length l10) (hc10 : l10.length ≤ c10) (hf : frameF (cleanR x0 x1 x2 x3 x4 k o n x8 l9 l10 x11 x12) = some (s, e)) :
    Calls Tryz.prog 12 #[.pointer (some ⟨L, 0, none⟩), .agg #[.int .i64 x0, .int .i64 x1, .int .i64 x2, .int .i64 x3, .int .i64 x4, .string k, .string o, .string n, .int .i64 x8, .slice A9 l9.length c9, .slice A10 l10.length c10, .int .i64 x11, .int .i64 x12]] w fun ex w' => ex = .returned (.tuple #[.int .i64 (appF all s e).2.1, .int .i64 (appF all s e).2.2]) ∧ IsLog w' L d base 200 run (appF all s e).1 dur ∧ Below w0.heap.size w0 w' := by
  have hu32 := Tryz.underlying33
  have HF := Aside0.mk (rec_Frame.calls x0 x1 x2 x3 x4 k o n x8 A9 c9 l9 A10 c10 l10 x11 x12 s e (w.alloc (.cells #[.int .i64 x0, .int .i64 x1, .int .i64 x2, .int .i64 x3, .int .i64 x4, .string k, .string o, .string n, .int .i64 x8, .slice A9 l9.length c9, .slice A10 l10.length c10, .int .i64 x11, .int .i64 x12] 33)) (Kd.C_alloc hr9 _) hc9 (Kd.C_alloc hr10 _) hc10 hf)
  have HL := Aside0.mk (IsLog.below h (below_alloc (Below.refl _ _) (.cells #[.int .i64 x0, .int .i64 x1, .int .i64 x2, .int .i64 x3, .int .i64 x4, .string k, .string o, .string n, .int .i64 x8, .slice A9 l9.length c9, .slice A10 l10.length c10, .int .i64 x11, .int .i64 x12] 33)))
  have HB := Aside0.mk (below_alloc hB (.cells #[.int .i64 x0, .int .i64 x1, .int .i64 x2, .int .i64 x3, .int .i64 x4, .string k, .string o, .string n, .int .i64 x8, .slice A9 l9.length c9, .slice A10 l10.length c10, .int .i64 x11, .int .i64 x12] 33))
  clear h hB hr9 hc9 hr10 hc10 hf; have HG := Aside0.mk hL; have HS := Aside0.mk hs; clear hL hs
  by_cases he : e = 0
  · have ea : appF all s e = addF all s := if_pos he
    rw [ea]
    have b0 : (e != 0) = false := bne_eq_false_iff_eq.mpr he
    clear he ea
    go_enter Tryz.func12, Tryz.ntmps12
    go_wp2_with fail
    refine (log_off L d base 200 run all dur _ HL.out).mono ?_
    rintro e0 w1 ⟨rfl, rfl⟩
    go_wp2_with fail
    refine HF.out.mono ?_
    rintro e0 w2 ⟨rfl, hb⟩
    have HL2 := Aside0.mk (IsLog.below HL.out hb); have HB2 := Aside0.mk (below_step HB.out hb); clear hb HB HL HF
    go_wp2_with fail
    refine (log_add L d base run all s dur w0 w2 HL2.out HS.out HB2.out HG.out).mono ?_
    rintro e0 w3 ⟨rfl, hl, hb, _⟩
    have HL3 := Aside0.mk hl; have HB3 := Aside0.mk hb; clear hl hb
    go_wp2_with fail
    go_ret2
    exact ⟨rfl, HL3.out, HB3.out⟩
  · have ea : appF all s e = (all, 0, e) := if_neg he
    rw [ea]
    have b0 : (e != 0) = true := bne_iff_ne.mpr he
    clear he ea
    go_enter Tryz.func12, Tryz.ntmps12
    go_wp2_with fail
    refine (log_off L d base 200 run all dur _ HL.out).mono ?_
    rintro e0 w1 ⟨rfl, rfl⟩
    go_wp2_with fail
    refine HF.out.mono ?_
    rintro e0 w2 ⟨rfl, hb⟩
    have HL2 := Aside0.mk (IsLog.below HL.out hb); have HB2 := Aside0.mk (below_step HB.out hb); clear hb HB HL HF
    go_wp2_with fail
    go_ret2
    exact ⟨rfl, HL2.out, HB2.out⟩
end Go.Proofs.YteoebfiacnploaaGreatDoor.HRec
