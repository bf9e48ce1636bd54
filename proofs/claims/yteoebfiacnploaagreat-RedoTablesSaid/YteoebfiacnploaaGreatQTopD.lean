/- The walk of the law RedoTables, over the contracts. It proves no statement. -/
import Derived.Test.YteoebfiacnploaaGreatQG16
import Derived.Test.YteoebfiacnploaaGreatQG17
import Derived.Test.YteoebfiacnploaaGreatQG23
namespace Go.Proofs.YteoebfiacnploaaGreat.HRec
open Go.RowKit Go.Proofs.YteoebfiacnploaaGreatW.PrintWords Go.Proofs.YteoebfiacnploaaGreatW.PrintLast Go.Proofs.YteoebfiacnploaaGreatW.PrintMore
set_option linter.unusedVariables false
set_option linter.unusedSimpArgs false
def law_Tab.T19 : Bool × List (List Nat × List Nat) := (true, [([], []), ([], []), ([], []), ([1, 2], [1, 2]), ([3], [3]), ([4], [4]), ([], []), ([5, 6], [5, 6]), ([7], [7]), ([8], [8]), ([], []), ([], []), ([10, 11], [10, 11]), ([12], [12]), ([13], [13]), ([], []), ([14, 15], [14, 15]), ([16], [16]), ([17], [17]), ([0, 9, 18], [0, 9, 18]), ([19, 19, 0, 1, 2, 3, 4, 5, 6, 7, 8, 9, 10, 11, 12, 13, 14, 15, 16, 17, 18, 19], [0, 19])])
def law_Tab.B19 : List Nat := [0, 0, 0, 6, 14, 30, 0, 126, 254, 510, 0, 0, 3072, 7168, 15360, 0, 64512, 130048, 261120, 524287, 1048575]
theorem law_Tab.tab19 : rtab .any (opsOf Tryz.f5 19) = law_Tab.T19 := by kernel_rfl
theorem law_Tab.bits19 : waitsOk law_Tab.T19.2 law_Tab.B19 = true := by kernel_rfl
set_option maxHeartbeats 32000000 in
set_option maxRecDepth 100000 in
theorem law_Tables (A1 : Option Addr) (c1 : Nat) (l : List RecT) (chk : Int) (w : World) (hr : Kd.C kRec w A1 l.length l) :
    Calls Tryz.prog 5 #[.slice A1 l.length c1, .int .i64 chk] w fun e w' => e = .returned (.bool true) ∧ Below w.heap.size w w' := by
  have HLOG := Aside0.mk (law_LogG A1 c1 l 60 w hr); have hu32 := Tryz.underlying32; clear hr
  go_enter Tryz.func5, Tryz.ntmps5
  go_wp2_with fail
  refine HLOG.out.mono ?_
  rintro e w0 ⟨L, d, all, rfl, hL, hs, hG, _, hb⟩
  have HREC := Aside0.mk (log_Records L d 0 200 1 all 0 w0 hL hs)
  have HX : Aside0 (∀ W, IsLog W L d 0 200 1 all 0 → Calls Tryz.prog 14 #[.pointer (some ⟨L, 0, none⟩), .int .i64 0] W fun e w' => ∃ A cap, e = .returned (.tuple #[.slice A (tabTo (recsF all).1 (recsF all).2 [] 0 (recsF all).1.length).length cap, .int .i64 0]) ∧ (tabTo (recsF all).1 (recsF all).2 [] 0 (recsF all).1.length).length ≤ cap ∧ Kd.C k36 w' A (tabTo (recsF all).1 (recsF all).2 [] 0 (recsF all).1.length).length (tabTo (recsF all).1 (recsF all).2 [] 0 (recsF all).1.length) ∧ Below W.heap.size W w') := ⟨fun W h => redo_Table L d 0 200 1 all 0 0 _ 0 W h hs (tableF_0 all hs hG 0 (by decide))⟩
  obtain ⟨Y, cy, hY, hYd⟩ := tableF_any all hs chk
  have HY : Aside0 (∀ W, IsLog W L d 0 200 1 all 0 → Calls Tryz.prog 14 #[.pointer (some ⟨L, 0, none⟩), .int .i64 chk] W fun e w' => ∃ A cap, e = .returned (.tuple #[.slice A Y.length cap, .int .i64 cy]) ∧ Y.length ≤ cap ∧ Kd.C k36 w' A Y.length Y ∧ Below W.heap.size W w') := ⟨fun W h => redo_Table L d 0 200 1 all 0 chk Y cy W h hs hY⟩
  have HY0 : Aside0 (chk < 1 → Y = tabTo (recsF all).1 (recsF all).2 [] 0 (recsF all).1.length ∧ cy = 0) := ⟨fun h => by have := (tableF_0 all hs hG chk h).symm.trans hY; simp only [Option.some.injEq, Prod.mk.injEq] at this; exact ⟨this.1.symm, this.2.symm⟩⟩
  have HYI : Aside0 (∀ i : Nat, i < (recsF all).1.length → ((recsF all).1.getD i zRec).1 = 9 → (recsF all).2.getD i 0 = chk → ((recsF all).1.getD i zRec).2.2.2.2.2.2.2.2.2.2.1.length < 256 ∧ Y = tabTo (recsF all).1 (recsF all).2 (putTo ((recsF all).1.getD i zRec).2.2.2.2.2.2.2.2.2.2.1 ((recsF all).1.getD i zRec).2.2.2.2.2.2.2.2.2.2.1.length) (i + 1) ((recsF all).1.length - (i + 1)) ∧ cy = 0) := ⟨fun i hi hk hp => by
    obtain ⟨⟨g1, g2⟩, g3⟩ := tableF_at all hs hG i hi hk
    rw [hp] at g3
    have := g3.symm.trans hY
    simp only [Option.some.injEq, Prod.mk.injEq] at this
    exact ⟨g2, this.1.symm, this.2.symm⟩⟩
  have HYD := Aside0.mk hYd; have HLN := Aside0.mk (recsF_len all hs); clear hY hYd
  generalize recsF all = RP at *
  obtain ⟨rs, ps⟩ := RP
  dsimp only at HREC HX HY0 HYI HLN
  have L0 := Aside0.mk hL; have B0 := Aside0.mk hb; clear hL hs hG hb HLOG
  go_wp2_with fail
  refine HREC.out.mono ?_
  rintro e w1 ⟨v1, v2, rfl, q1, q2, hb⟩
  obtain ⟨A2, c2, rfl⟩ := Kd.R_slice q1
  obtain ⟨A3, c3, rfl⟩ := Kd.R_slice q2
  have Q1 := Aside0.mk (Kd.R_reads' q1).2.2
  have Q2 := Aside0.mk (Kd.R_reads' q2).2.2
  have L1 := Aside0.mk (IsLog.below L0.out hb); have B1 := Aside0.mk (below_step B0.out hb); clear q1 q2 hb HREC L0 B0
  go_wp2_with fail
  refine (HX.out w1 L1.out).mono ?_
  rintro e w2 ⟨A4, c4, rfl, hc4, hC4, hb⟩
  have C4 := Aside0.mk (And.intro hc4 hC4); have L2 := Aside0.mk (IsLog.below L1.out hb); have B2 := Aside0.mk (below_step B1.out hb); have Q12 := Aside0.mk (Kd.C_below Q1.out hb); have Q22 := Aside0.mk (Kd.C_below Q2.out hb); clear hc4 hC4 hb HX L1 B1 Q1 Q2
  have HLX := Aside0.mk (tabTo_len rs ps [] 0 rs.length)
  have HTB := Aside0.mk (law_table none 0 [] A2 c2 rs A3 c3 ps 0 w2 ⟨rfl, Nat.zero_le _, fun h => absurd h (Nat.lt_irrefl _)⟩ (Nat.le_refl _) Q12.out Q22.out HLN.out.1 HLN.out.2 (Nat.zero_le _) (Int.le_refl _) (Int.natCast_nonneg _))
  rw [show (0 : Int).toNat = 0 from rfl, Nat.sub_zero] at HTB
  generalize hX : tabTo rs ps [] 0 rs.length = X at *
  clear hX
  go_wp2_with fail
  refine HTB.out.mono ?_
  rintro e w3 ⟨A5, c5, rfl, hc5, hC5, hb⟩
  have C5 := Aside0.mk (And.intro hc5 hC5); have C43 := Aside0.mk (Kd.C_below C4.out.2 hb); have L3 := Aside0.mk (IsLog.below L2.out hb); have B3 := Aside0.mk (below_step B2.out hb); have Q13 := Aside0.mk (Kd.C_below Q12.out hb); have Q23 := Aside0.mk (Kd.C_below Q22.out hb); clear hc5 hC5 hb HTB L2 B2 Q12 Q22
  go_wp2_with fail
  refine (gharrylaw15_same.calls 100001 A4 c4 X A5 c5 X true w3 C43.out C4.out.1 C5.out.2 C5.out.1 (same_self X (by have := HLX.out; have := HLN.out.2; simp only [List.length_nil] at *; omega))).mono ?_
  rintro e w4 ⟨rfl, hD⟩
  have hb := Drawn0.below hD; have C44 := Aside0.mk (Kd.C_below C43.out hb); have L4 := Aside0.mk (IsLog.below L3.out hb); have B4 := Aside0.mk (below_step B3.out hb); have Q14 := Aside0.mk (Kd.C_below Q13.out hb); have Q24 := Aside0.mk (Kd.C_below Q23.out hb); clear hb hD C43 C5 L3 B3 Q13 Q23
  go_wp2_with fail
  refine (HY.out w4 L4.out).mono ?_
  rintro e w5 ⟨A6, c6, rfl, hc6, hC6, hb⟩
  have C6 := Aside0.mk (And.intro hc6 hC6); have C45 := Aside0.mk (Kd.C_below C44.out hb); have B5 := Aside0.mk (below_step B4.out hb); have Q1 := Aside0.mk (Kd.C_below Q14.out hb); have Q2 := Aside0.mk (Kd.C_below Q24.out hb); clear hc6 hC6 hb HY L4 B4 Q14 Q24 C44
  by_cases hc1 : chk < 1
  · have bc : decide (chk < 1) = true := decide_eq_true hc1
    obtain ⟨rfl, rfl⟩ := HY0.out hc1
    clear hc1 HY0 HYI HYD
    go_wp2_with fail
    refine (gharrylaw15_same.calls 100001 A4 c4 Y A6 c6 Y true w5 C45.out C4.out.1 C6.out.2 C6.out.1 (same_self Y (by have := HLX.out; have := HLN.out.2; simp only [List.length_nil] at *; omega))).mono ?_
    rintro e w6 ⟨rfl, hD⟩
    have B6 := Aside0.mk (below_step B5.out (Drawn0.below hD)); clear hD B5 C45 C6 C4
    go_wp2_with fail
    refine (gharrylaw15_awake.calls 10 true w6 awake_true).mono ?_
    rintro e w9 ⟨rfl, hb⟩
    have B9 := Aside0.mk (below_step B6.out hb); clear hb B6
    go_wp2_with fail
    go_ret
    exact ⟨rfl, B9.out⟩
  · have bc : decide (chk < 1) = false := decide_eq_false hc1
    clear HY0 C45 C4 HLX hc1
    go_wp2_with fail
    go_loopg [12] (rs.length) (fun kq v12 w' => ∃ i : Int, v12 = .int .i64 i ∧ Aside0 (0 ≤ i ∧ i.toNat + kq = rs.length) ∧ Drawn0 w5 w')
    case atStart => exact ⟨0, rfl, ⟨by omega, by simp⟩, Drawn0.refl _⟩
    case round =>
      obtain ⟨i, rfl, HN, hD⟩ := hrel
      cases gk with
      | zero =>
        have b0 : decide (i < (rs.length : Int)) = false := decide_eq_false (by have := HN.out; omega)
        have BR := Aside0.mk (below_step B5.out (Drawn0.below hD)); clear hD B5 Q1 Q2
        rcases HYD.out with rfl | ⟨rfl, rfl⟩
        · go_wp2_with fail
          refine (gharrylaw15_awake.calls 10 true wr awake_true).mono ?_
          rintro e w9 ⟨rfl, hb⟩
          have B9 := Aside0.mk (below_step BR.out hb); clear hb BR
          go_wp2_with fail
          go_ret
          exact ⟨rfl, B9.out⟩
        · go_wp2_with fail
          refine (gharrylaw15_awake.calls 10 true wr awake_true).mono ?_
          rintro e w9 ⟨rfl, hb⟩
          have B9 := Aside0.mk (below_step BR.out hb); clear hb BR
          go_wp2_with fail
          go_ret
          exact ⟨rfl, B9.out⟩
      | succ k1 =>
        have hi : i < (rs.length : Int) := by have := HN.out; omega
        have hi2 : i < (ps.length : Int) := by have := HLN.out.1; have := HN.out; omega
        have h0 : 0 ≤ i := HN.out.1
        have b0 : decide (i < (rs.length : Int)) = true := decide_eq_true hi
        have hw : wrap64 (i + 1) = i + 1 := w64 (by omega) (by have := HLN.out.2; omega)
        have hnx : (i + 1).toNat = i.toNat + 1 := by omega
        have hB := Drawn0.below hD
        obtain ⟨ad, A9, c9, A10, c10, rfl, z0, z1, z2, z3, z4, z5, z6, z7, z8, z9, z10, z11, z12, q9, y9, q10, y10⟩ := at_Rec Q1.out i h0 hi
        obtain ⟨ad2, rfl, x0⟩ := Kd.at_int Q2.out i h0 hi2
        have r0 := below_cell hB z0; have r2x := below_cell hB x0; clear z1 z2 z3 z4 z5 z6 z7 z8 z9 z11 z12 q9 y9
        by_cases hp : rd ps i = chk
        · by_cases hk9 : (rd_Rec rs i).1 = 9
          · obtain ⟨ht, hYe, hcy⟩ := HYI.out i.toNat (by omega) hk9 hp
            subst hcy
            have bp : (rd ps i == chk) = true := beq_iff_eq.mpr hp
            have bk : ((rd_Rec rs i).1 == 9) = true := beq_iff_eq.mpr hk9
            change (rd_Rec rs i).2.2.2.2.2.2.2.2.2.2.1.length < 256 at ht
            change Y = tabTo rs ps (putTo (rd_Rec rs i).2.2.2.2.2.2.2.2.2.2.1 (rd_Rec rs i).2.2.2.2.2.2.2.2.2.2.1.length) (i.toNat + 1) (rs.length - (i.toNat + 1)) at hYe
            generalize (rd_Rec rs i).2.2.2.2.2.2.2.2.2.2.1 = tab at *
            have HYE := Aside0.mk hYe; have HTL := Aside0.mk ht; have Q10 := Aside0.mk q10; have HBr := Aside0.mk (below_step B5.out hB); have C6r := Aside0.mk (Kd.C_below C6.out.2 hB); have Q1r := Aside0.mk (Kd.C_below Q1.out hB); have Q2r := Aside0.mk (Kd.C_below Q2.out hB); have Q10r := Aside0.mk (Kd.C_below q10 hB); have Z10r := below_cell hB z10; clear hp hk9 hYe ht q10 hB hD HYI HYD z10 z0 x0 y10 Q10 B5 Q1 Q2
            go_wp2_with fail
            clear r0 r2x bp bk
            generalize hwo : wr = wo at HBr C6r Q1r Q2r Q10r Z10r ⊢
            clear hwo
            go_loopg [13, 14] (tab.length) (fun kq v13 v14 w' => ∃ (j : Int) (A : Option Addr) (c : Nat) (T : List S36), v14 = .int .i64 j ∧ v13 = .slice A T.length c ∧ Aside0 (0 ≤ j ∧ j.toNat + kq = tab.length) ∧ Aside0 (T = putTo tab j.toNat) ∧ Aside0 (T.length ≤ c) ∧ Aside0 (Kd.C k36 w' A T.length T) ∧ Aside0 (T.length ≤ j.toNat) ∧ Aside0 (Below wo.heap.size wo w'))
            case atStart => exact ⟨0, none, 0, [], rfl, rfl, ⟨by omega, by simp⟩, ⟨rfl⟩, ⟨Nat.le_refl _⟩, ⟨⟨rfl, Nat.zero_le _, fun h => absurd h (Nat.lt_irrefl _)⟩⟩, ⟨Nat.le_refl _⟩, ⟨Below.refl _ _⟩⟩
            case round =>
              obtain ⟨j, A, c, T, rfl, rfl, HJ, HTE, HTC, HTR, HTT, HBq⟩ := hrel
              cases gk with
              | zero =>
                have bj : decide (j < (tab.length : Int)) = false := decide_eq_false (by have := HJ.out; omega)
                have hj : j.toNat = tab.length := by have := HJ.out; omega
                have rq10 := below_cell HBq.out Z10r
                have HTAB := Aside0.mk (law_table A c T (some ad) c2 rs (some ad2) c3 ps (i + 1) wr HTR.out HTC.out (Kd.C_below Q1r.out HBq.out) (Kd.C_below Q2r.out HBq.out) HLN.out.1 HLN.out.2 (by have := HTT.out; have := HTL.out; omega) (by omega) (by omega))
                have hTe := HTE.out
                rw [hj] at hTe
                rw [hnx, hTe, ← HYE.out, ← hTe] at HTAB
                have C6q := Aside0.mk (Kd.C_below C6r.out HBq.out); have Bq := Aside0.mk (below_step HBr.out HBq.out); clear hTe hj HTE HBq C6r HBr Q1r Q2r HTR
                go_wp2_with fail
                refine HTAB.out.mono ?_
                rintro e w6 ⟨A7, c7, rfl, hc7, hC7, hb⟩
                have C7 := Aside0.mk (And.intro hc7 hC7); have C66 := Aside0.mk (Kd.C_below C6q.out hb); have B6 := Aside0.mk (below_step Bq.out hb); clear hc7 hC7 hb HTAB C6q Bq rq10
                go_wp2_with fail
                refine (gharrylaw15_same.calls 100001 A6 c6 Y A7 c7 Y true w6 C66.out C6.out.1 C7.out.2 C7.out.1 (same_self Y (by rw [HYE.out]; have g1 := tabTo_len rs ps (putTo tab tab.length) (i.toNat + 1) (rs.length - (i.toNat + 1)); have g2 := putTo_len tab tab.length; have := HLN.out.2; have := HTL.out; omega))).mono ?_
                rintro e w7 ⟨rfl, hD⟩
                have B7 := Aside0.mk (below_step B6.out (Drawn0.below hD)); clear hD B6 C66 C7
                go_wp2_with fail
                refine (gharrylaw15_awake.calls 10 true w7 awake_true).mono ?_
                rintro e w9 ⟨rfl, hb⟩
                have B9 := Aside0.mk (below_step B7.out hb); clear hb B7
                go_wp2_with fail
                go_ret
                exact ⟨rfl, B9.out⟩
              | succ k2 =>
                have hj : j < (tab.length : Int) := by have := HJ.out; omega
                have hj0 : 0 ≤ j := HJ.out.1
                have bj : decide (j < (tab.length : Int)) = true := decide_eq_true hj
                have hwj : wrap64 (j + 1) = j + 1 := w64 (by omega) (by have := HTL.out; omega)
                have hnj : (j + 1).toNat = j.toNat + 1 := by omega
                have HPT : Aside0 (putS T (rd_T36 tab j).f0 (rd_T36 tab j).f1 = putTo tab (j + 1).toNat) := ⟨by
                  rw [hnj, HTE.out]
                  show _ = putS (putTo tab j.toNat) (rd_T36 tab (j.toNat : Int)).f0 (rd_T36 tab (j.toNat : Int)).f1
                  rw [Int.toNat_of_nonneg hj0]⟩
                have HPV := Aside0.mk (put_val36 T (rd_T36 tab j).f0 (rd_T36 tab j).f1 (2 * T.length + 2) (by have := HTT.out; have := HTL.out; omega) (Nat.le_refl _))
                obtain ⟨ad3, rfl, y0, y1⟩ := at_T36 Q10r.out j hj0 hj
                have z10 := Z10r; have rq10 := below_cell HBq.out Z10r
                go_wp2_with fail
                refine start_ (n := 21) (S := fun w' => Below wr.drew.heap.size wr.drew w') (ds := []) #[false, false, false, false, false, false, false, false, false, false, false, false, false, false, false, false, false, false, false, false, false] (by kernel_rfl) rfl rfl (Below.refl _ _) (fun hHeld => ?_); refine with_tabW law_Tab.tab19 law_Tab.bits19 (fun HT_ HW_ => ?_)
                have m1_ := Aside0.mk (Kd.C_drew HTR.out); have m2_ := Aside0.mk (below_drew HBq.out)
                have f1_ : Aside0 (wr.drew.cell? ⟨(ad.add (i.toNat * 13)).block, (ad.add (i.toNat * 13)).off + 10, none⟩ = some (.slice (some ad3) tab.length c10)) := ⟨below_cell m2_.out z10⟩
                have f2_ : Aside0 (wr.drew.cell? (ad3.add (j.toNat * 2)) = some (.int .i64 (rd_T36 tab j).f0)) := ⟨below_cell m2_.out y0⟩
                have f3_ : Aside0 (wr.drew.cell? ⟨(ad3.add (j.toNat * 2)).block, (ad3.add (j.toNat * 2)).off + 1, none⟩ = some (.int .i64 (rd_T36 tab j).f1)) := ⟨below_cell m2_.out y1⟩
                clear rq10
                generalize wr.drew = W0 at m1_ m2_ f1_ f2_ f3_ hHeld ⊢
                refine pure_ (i := 0) (N := some 87) (v := ?_) (a' := ?_) #[true, false, false, false, false, false, false, false, false, false, false, false, false, false, false, false, false, false, false, false, false] rfl rfl (any_of HT_.out (by kernel_rfl)) (fun _ _ _ h => h) (Or.inl ⟨by rfl, ?_⟩) ?_ ?_
                rotate_left
                · intro w'
                  go_simp
                  with_reducible rfl
                rotate_left
                · simp only [Act.put, List.setIfInBounds_toArray, List.set_cons_zero, List.set_cons_succ, i64_w, i32_w]
                  rfl
                refine pure_ (i := 1) (N := some 88) (v := ?_) (a' := ?_) #[true, true, false, false, false, false, false, false, false, false, false, false, false, false, false, false, false, false, false, false, false] rfl rfl (any_of HT_.out (by kernel_rfl)) (fun _ _ _ h => h) (Or.inl ⟨by rfl, ?_⟩) ?_ ?_
                rotate_left
                · intro w'
                  go_simp
                  with_reducible rfl
                rotate_left
                · simp only [Act.put, List.setIfInBounds_toArray, List.set_cons_zero, List.set_cons_succ, i64_w, i32_w]
                  rfl
                refine pure_ (i := 2) (N := some 89) (v := ?_) (a' := ?_) #[true, true, true, false, false, false, false, false, false, false, false, false, false, false, false, false, false, false, false, false, false] rfl rfl (any_of HT_.out (by kernel_rfl)) (fun _ _ _ h => h) (Or.inl ⟨by rfl, ?_⟩) ?_ ?_
                rotate_left
                · intro w'
                  go_simp
                  with_reducible rfl
                rotate_left
                · simp only [Act.put, List.setIfInBounds_toArray, List.set_cons_zero, List.set_cons_succ, i64_w, i32_w]
                  rfl
                refine pure_ (i := 3) (N := some 90) (v := ?_) (a' := ?_) #[true, true, true, true, false, false, false, false, false, false, false, false, false, false, false, false, false, false, false, false, false] rfl rfl (any_of HT_.out (by kernel_rfl)) (fun _ _ _ h => h) (Or.inl ⟨by rfl, ?_⟩) ?_ ?_
                rotate_left
                · intro w'
                  go_simp
                  with_reducible rfl
                rotate_left
                · simp only [Act.put, List.setIfInBounds_toArray, List.set_cons_zero, List.set_cons_succ, i64_w, i32_w]
                  rfl
                refine pure_ (i := 4) (N := some 91) (v := ?_) (a' := ?_) #[true, true, true, true, true, false, false, false, false, false, false, false, false, false, false, false, false, false, false, false, false] rfl rfl (any_of HT_.out (by kernel_rfl)) (fun _ _ _ h => h) (Or.inl ⟨by rfl, ?_⟩) ?_ ?_
                rotate_left
                · intro w'
                  go_simp
                  with_reducible rfl
                rotate_left
                · simp only [Act.put, List.setIfInBounds_toArray, List.set_cons_zero, List.set_cons_succ, i64_w, i32_w]
                  rfl
                refine take_ (i := 5) (N := some 92) (v := ?_) (a' := ?_) #[true, true, true, true, true, true, false, false, false, false, false, false, false, false, false, false, false, false, false, false, false] rfl rfl (take_ofW HT_.out HW_.out (by kernel_rfl)) (fun _ _ _ h => h) (Or.inl ⟨by rfl, ?_⟩) hHeld ?_ ?_
                rotate_left
                · intro w' hs
                  have s1 := below_cell hs f1_.out; have s2 := below_cell hs f2_.out; have s3 := below_cell hs f3_.out
                  go_simp
                  with_reducible rfl
                rotate_left
                · simp only [Act.put, List.setIfInBounds_toArray, List.set_cons_zero, List.set_cons_succ, i64_w, i32_w]
                  rfl
                refine pure_ (i := 6) (N := some 93) (v := ?_) (a' := ?_) #[true, true, true, true, true, true, true, false, false, false, false, false, false, false, false, false, false, false, false, false, false] rfl rfl (any_of HT_.out (by kernel_rfl)) (fun _ _ _ h => h) (Or.inl ⟨by rfl, ?_⟩) ?_ ?_
                rotate_left
                · intro w'
                  go_simp
                  with_reducible rfl
                rotate_left
                · simp only [Act.put, List.setIfInBounds_toArray, List.set_cons_zero, List.set_cons_succ, i64_w, i32_w]
                  rfl
                refine pure_ (i := 7) (N := some 94) (v := ?_) (a' := ?_) #[true, true, true, true, true, true, true, true, false, false, false, false, false, false, false, false, false, false, false, false, false] rfl rfl (any_of HT_.out (by kernel_rfl)) (fun _ _ _ h => h) (Or.inl ⟨by rfl, ?_⟩) ?_ ?_
                rotate_left
                · intro w'
                  go_simp
                  with_reducible rfl
                rotate_left
                · simp only [Act.put, List.setIfInBounds_toArray, List.set_cons_zero, List.set_cons_succ, i64_w, i32_w]
                  rfl
                refine pure_ (i := 8) (N := some 95) (v := ?_) (a' := ?_) #[true, true, true, true, true, true, true, true, true, false, false, false, false, false, false, false, false, false, false, false, false] rfl rfl (any_of HT_.out (by kernel_rfl)) (fun _ _ _ h => h) (Or.inl ⟨by rfl, ?_⟩) ?_ ?_
                rotate_left
                · intro w'
                  go_simp
                  with_reducible rfl
                rotate_left
                · simp only [Act.put, List.setIfInBounds_toArray, List.set_cons_zero, List.set_cons_succ, i64_w, i32_w]
                  rfl
                refine take_ (i := 9) (N := some 96) (v := ?_) (a' := ?_) #[true, true, true, true, true, true, true, true, true, true, false, false, false, false, false, false, false, false, false, false, false] rfl rfl (take_ofW HT_.out HW_.out (by kernel_rfl)) (fun _ _ _ h => h) (Or.inl ⟨by rfl, ?_⟩) hHeld ?_ ?_
                rotate_left
                · intro w' hs
                  have s1 := below_cell hs f1_.out; have s2 := below_cell hs f2_.out; have s3 := below_cell hs f3_.out
                  go_simp
                  with_reducible rfl
                rotate_left
                · simp only [Act.put, List.setIfInBounds_toArray, List.set_cons_zero, List.set_cons_succ, i64_w, i32_w]
                  rfl
                refine pure_ (i := 10) (N := some 97) (v := ?_) (a' := ?_) #[true, true, true, true, true, true, true, true, true, true, true, false, false, false, false, false, false, false, false, false, false] rfl rfl (any_of HT_.out (by kernel_rfl)) (fun _ _ _ h => h) (Or.inl ⟨by rfl, ?_⟩) ?_ ?_
                rotate_left
                · intro w'
                  go_simp
                  with_reducible rfl
                rotate_left
                · simp only [Act.put, List.setIfInBounds_toArray, List.set_cons_zero, List.set_cons_succ, i64_w, i32_w]
                  rfl
                refine pure_ (i := 11) (N := some 98) (v := ?_) (a' := ?_) #[true, true, true, true, true, true, true, true, true, true, true, true, false, false, false, false, false, false, false, false, false] rfl rfl (any_of HT_.out (by kernel_rfl)) (fun _ _ _ h => h) (Or.inl ⟨by rfl, ?_⟩) ?_ ?_
                rotate_left
                · intro w'
                  go_simp
                  with_reducible rfl
                rotate_left
                · simp only [Act.put, List.setIfInBounds_toArray, List.set_cons_zero, List.set_cons_succ, i64_w, i32_w]
                  rfl
                refine pure_ (i := 12) (N := some 99) (v := ?_) (a' := ?_) #[true, true, true, true, true, true, true, true, true, true, true, true, true, false, false, false, false, false, false, false, false] rfl rfl (any_of HT_.out (by kernel_rfl)) (fun _ _ _ h => h) (Or.inl ⟨by rfl, ?_⟩) ?_ ?_
                rotate_left
                · intro w'
                  go_simp
                  with_reducible rfl
                rotate_left
                · simp only [Act.put, List.setIfInBounds_toArray, List.set_cons_zero, List.set_cons_succ, i64_w, i32_w]
                  rfl
                refine pure_ (i := 13) (N := some 100) (v := ?_) (a' := ?_) #[true, true, true, true, true, true, true, true, true, true, true, true, true, true, false, false, false, false, false, false, false] rfl rfl (any_of HT_.out (by kernel_rfl)) (fun _ _ _ h => h) (Or.inl ⟨by rfl, ?_⟩) ?_ ?_
                rotate_left
                · intro w'
                  go_simp
                  with_reducible rfl
                rotate_left
                · simp only [Act.put, List.setIfInBounds_toArray, List.set_cons_zero, List.set_cons_succ, i64_w, i32_w]
                  rfl
                refine take_ (i := 14) (N := some 101) (v := ?_) (a' := ?_) #[true, true, true, true, true, true, true, true, true, true, true, true, true, true, true, false, false, false, false, false, false] rfl rfl (take_ofW HT_.out HW_.out (by kernel_rfl)) (fun _ _ _ h => h) (Or.inl ⟨by rfl, ?_⟩) hHeld ?_ ?_
                rotate_left
                · intro w' hs
                  have s1 := below_cell hs f1_.out; have s2 := below_cell hs f2_.out; have s3 := below_cell hs f3_.out
                  go_simp
                  with_reducible rfl
                rotate_left
                · simp only [Act.put, List.setIfInBounds_toArray, List.set_cons_zero, List.set_cons_succ, i64_w, i32_w]
                  rfl
                refine pure_ (i := 15) (N := some 102) (v := ?_) (a' := ?_) #[true, true, true, true, true, true, true, true, true, true, true, true, true, true, true, true, false, false, false, false, false] rfl rfl (any_of HT_.out (by kernel_rfl)) (fun _ _ _ h => h) (Or.inl ⟨by rfl, ?_⟩) ?_ ?_
                rotate_left
                · intro w'
                  go_simp
                  with_reducible rfl
                rotate_left
                · simp only [Act.put, List.setIfInBounds_toArray, List.set_cons_zero, List.set_cons_succ, i64_w, i32_w]
                  rfl
                refine pure_ (i := 16) (N := some 103) (v := ?_) (a' := ?_) #[true, true, true, true, true, true, true, true, true, true, true, true, true, true, true, true, true, false, false, false, false] rfl rfl (any_of HT_.out (by kernel_rfl)) (fun _ _ _ h => h) (Or.inl ⟨by rfl, ?_⟩) ?_ ?_
                rotate_left
                · intro w'
                  go_simp
                  with_reducible rfl
                rotate_left
                · simp only [Act.put, List.setIfInBounds_toArray, List.set_cons_zero, List.set_cons_succ, i64_w, i32_w]
                  rfl
                refine pure_ (i := 17) (N := some 104) (v := ?_) (a' := ?_) #[true, true, true, true, true, true, true, true, true, true, true, true, true, true, true, true, true, true, false, false, false] rfl rfl (any_of HT_.out (by kernel_rfl)) (fun _ _ _ h => h) (Or.inl ⟨by rfl, ?_⟩) ?_ ?_
                rotate_left
                · intro w'
                  go_simp
                  with_reducible rfl
                rotate_left
                · simp only [Act.put, List.setIfInBounds_toArray, List.set_cons_zero, List.set_cons_succ, i64_w, i32_w]
                  rfl
                refine take_ (i := 18) (N := some 105) (v := ?_) (a' := ?_) #[true, true, true, true, true, true, true, true, true, true, true, true, true, true, true, true, true, true, true, false, false] rfl rfl (take_ofW HT_.out HW_.out (by kernel_rfl)) (fun _ _ _ h => h) (Or.inl ⟨by rfl, ?_⟩) hHeld ?_ ?_
                rotate_left
                · intro w' hs
                  have s1 := below_cell hs f1_.out; have s2 := below_cell hs f2_.out; have s3 := below_cell hs f3_.out
                  go_simp
                  with_reducible rfl
                rotate_left
                · simp only [Act.put, List.setIfInBounds_toArray, List.set_cons_zero, List.set_cons_succ, i64_w, i32_w]
                  rfl
                refine one_ (i := 19) (N := some 106) #[true, true, true, true, true, true, true, true, true, true, true, true, true, true, true, true, true, true, true, true, false] rfl rfl (one_of HT_.out (by kernel_rfl)) (by decide) (fun K hK => ?_)
                refine goes_ Tryz.func17 (by kernel_rfl) rfl #[.slice A T.length c, .int .i64 (rd_T36 tab j).f0, .int .i64 (rd_T36 tab j).f1] (by rfl) rfl rfl (by (try simp only [List.map_toArray, List.map_cons, List.map_nil]); rfl) ?_
                refine (gharrylaw15_put.calls (2 * T.length + 2) A c T ((rd_T36 tab j).f0) ((rd_T36 tab j).f1) (putS T ((rd_T36 tab j).f0) ((rd_T36 tab j).f1)) W0 m1_.out HTC.out HPV.out).mono ?_
                rintro e w8 ⟨v3, rfl, q3, hb3⟩
                obtain ⟨A8, c8, rfl⟩ := Kd.R_slice q3
                refine ⟨_, rfl, ?_⟩
                refine hK.out _ _ hb3 (fun hHeld2 => ?_)
                clear hK K
                have n1_ := Aside0.mk (Kd.R_reads' q3)
                have n2_ := Aside0.mk (below_step m2_.out hb3); clear q3 hb3 hHeld hHeld2
                refine norm_ (a' := ?_) ?_ ?_
                rotate_left
                · simp only [Act.put, List.setIfInBounds_toArray, List.set_cons_zero, List.set_cons_succ]
                  rfl
                refine pure_ (i := 20) (N := some 13) (v := ?_) (a' := ?_) #[true, true, true, true, true, true, true, true, true, true, true, true, true, true, true, true, true, true, true, true, true] rfl rfl (any_of HT_.out (by kernel_rfl)) (fun _ _ _ h => h) (Or.inl ⟨by rfl, ?_⟩) ?_ ?_
                rotate_left
                · intro w'
                  go_simp
                  with_reducible rfl
                rotate_left
                · simp only [Act.put, List.setIfInBounds_toArray, List.set_cons_zero, List.set_cons_succ, i64_w, i32_w]
                  rfl
                refine done_ (done_of HT_.out (by kernel_rfl)) ?_
                go_wp2_with fail
                go_roundg k2
                case measure => omega
                case rel => exact ⟨j + 1, A8, c8, putS T (rd_T36 tab j).f0 (rd_T36 tab j).f1, by first | rfl | rw [hwj], rfl, ⟨by omega, by have := HJ.out; omega⟩, HPT, ⟨n1_.out.2.1⟩, ⟨n1_.out.2.2⟩, ⟨by have := HTT.out; have := putS_len (rd_T36 tab j).f0 (rd_T36 tab j).f1 T; omega⟩, n2_⟩
          · have bp : (rd ps i == chk) = true := beq_iff_eq.mpr hp
            have bk : ((rd_Rec rs i).1 == 9) = false := beq_eq_false_iff_ne.mpr hk9
            obtain ⟨m1, rfl⟩ := hD
            clear hp hk9 z10 q10 y10
            go_wp2_with fail
            go_roundg k1
            case measure => omega
            case rel => exact ⟨i + 1, by first | rfl | rw [hw], ⟨by omega, by have := HN.out; omega⟩, by repeat (first | exact Drawn0.refl _ | apply Drawn0.step)⟩
        · have bp : (rd ps i == chk) = false := beq_eq_false_iff_ne.mpr hp
          obtain ⟨m1, rfl⟩ := hD
          clear hp z10 q10 y10
          go_wp2_with fail
          go_roundg k1
          case measure => omega
          case rel => exact ⟨i + 1, by first | rfl | rw [hw], ⟨by omega, by have := HN.out; omega⟩, by repeat (first | exact Drawn0.refl _ | apply Drawn0.step)⟩
end Go.Proofs.YteoebfiacnploaaGreat.HRec
