/- The walk of the law RedoSpans, over the contracts. It proves no statement. -/
import Derived.Test.YteoebfiacnploaaGreatQG9
import Derived.Test.YteoebfiacnploaaGreatQRedoB
import Derived.Test.YteoebfiacnploaaGreatQG11
import Derived.Test.YteoebfiacnploaaGreatQFgharrylaw15awake
namespace Go.Proofs.YteoebfiacnploaaGreat.HRec
open Go.RowKit Go.Proofs.YteoebfiacnploaaGreatW.PrintWords Go.Proofs.YteoebfiacnploaaGreatW.PrintLast Go.Proofs.YteoebfiacnploaaGreatW.PrintMore
set_option linter.unusedVariables false
set_option linter.unusedSimpArgs false
def law_Spans.T14 : Bool × List (List Nat × List Nat) := (true, [([], []), ([], []), ([], []), ([1, 2], [1, 2]), ([3], [3]), ([4], [4]), ([], []), ([], []), ([6, 7], [6, 7]), ([8], [8]), ([5, 9], [5, 9]), ([10], [10]), ([0, 11], [0, 11]), ([12, 12, 0, 1, 2, 3, 4, 5, 6, 7, 8, 9, 10, 11, 12], [0, 12])])
def law_Spans.B14 : List Nat := [0, 0, 0, 6, 14, 30, 0, 0, 192, 448, 1022, 2046, 4095, 8191]
theorem law_Spans.tab14 : rtab .any (opsOf Tryz.f3 14) = law_Spans.T14 := by kernel_rfl
theorem law_Spans.bits14 : waitsOk law_Spans.T14.2 law_Spans.B14 = true := by kernel_rfl
def law_Spans.T21 : Bool × List (List Nat × List Nat) := (true, [([], []), ([], []), ([], []), ([1, 2], [1, 2]), ([3], [3]), ([4], [4]), ([], []), ([], []), ([6, 7], [6, 7]), ([8], [8]), ([5, 9], [5, 9]), ([10], [10]), ([0, 11], [0, 11]), ([12, 12, 0, 1, 2, 3, 4, 5, 6, 7, 8, 9, 10, 11, 12], [0, 12])])
def law_Spans.B21 : List Nat := [0, 0, 0, 6, 14, 30, 0, 0, 192, 448, 1022, 2046, 4095, 8191]
theorem law_Spans.tab21 : rtab .any (opsOf Tryz.f3 21) = law_Spans.T21 := by kernel_rfl
theorem law_Spans.bits21 : waitsOk law_Spans.T21.2 law_Spans.B21 = true := by kernel_rfl
theorem eqA34 (d : Nat) (w : World) (x0 y0 : Int) (x1 y1 : Int) :
    (Op.equalIn (d + 2) 34 (.agg #[.int .i64 x0, .int .i64 x1]) (.agg #[.int .i64 y0, .int .i64 y1])).run Tryz.prog w = .ok (x0 == y0 && (x1 == y1)) w := by
  refine eqA_of Tryz.underlying34 (by kernel_rfl) ?_
  refine eqf_cons (by rfl) (by go_simp; rfl) (by go_simp; rfl) (by go_simp) ?_
  exact eqf_last (by rfl) (by go_simp; rfl) (by go_simp; rfl) (by go_simp)
attribute [local go_sem high] eqA34
theorem same_l_self (l : List S36) (hl : l.length ≤ 100000) : ∀ (n k : Nat) (i : Int), 0 ≤ i → ((l.length : Int) - i).toNat ≤ n → n + 1 ≤ k → gharrylaw15_same.l0 k l l i = some true
  | n, 0, _, _, _, hk => absurd hk (by omega)
  | n, k + 1, i, h0, hn, hk => by
    unfold gharrylaw15_same.l0
    by_cases hc : i < (l.length : Int)
    · obtain ⟨n, rfl⟩ : ∃ m, n = m + 1 := ⟨n - 1, by omega⟩
      rw [if_pos hc, if_pos h0, if_pos hc, if_neg (by simp), w64 (by omega) (by omega)]
      exact same_l_self l hl n k (i + 1) (by omega) (by omega) (by omega)
    · rw [if_neg hc]
theorem same_self (l : List S36) (hl : l.length ≤ 100000) : gharrylaw15_same.f 100001 l l = some true := by
  unfold gharrylaw15_same.f
  rw [if_pos rfl]
  exact same_l_self l hl 100000 100001 0 (by omega) (by omega) (by omega)
theorem awake_true : gharrylaw15_awake.f 10 = some true := by kernel_rfl
theorem zkind {rs : List RecT} {i : Int} {a b : Int} (h : (rd_Rec rs i).1 = a) (hne : a ≠ b) : ¬ (rs.getD i.toNat zRec).1 = b := fun h2 => hne (h.symm.trans h2)
set_option maxHeartbeats 32000000 in
set_option maxRecDepth 100000 in
theorem law_Spans (A1 : Option Addr) (c1 : Nat) (l : List RecT) (en : Int) (w : World) (hr : Kd.C kRec w A1 l.length l) :
    Calls Tryz.prog 3 #[.slice A1 l.length c1, .int .i64 en] w fun e w' => e = .returned (.bool true) ∧ Below w.heap.size w w' := by
  have HLOG := Aside0.mk (law_Log A1 c1 l 60 w hr); have hu34 := Tryz.underlying34; clear hr
  go_enter Tryz.func3, Tryz.ntmps3
  go_wp2_with fail
  refine HLOG.out.mono ?_
  rintro e w0 ⟨L, d, all, rfl, hL, hs, _, hb⟩
  have HREC := Aside0.mk (log_Records L d 0 200 1 all 0 w0 hL hs)
  have HSP : Aside0 (∀ W, IsLog W L d 0 200 1 all 0 → Calls Tryz.prog 8 #[.pointer (some ⟨L, 0, none⟩)] W fun e w' => ∃ v, e = .returned v ∧ Kd.R k34 34 w' W.heap.size (fun _ => True) v (spansTo (recsF all).1 (recsF all).2 (recsF all).1.length) ∧ Below W.heap.size W w') := ⟨fun W h => redo_Spans L d 0 200 1 all 0 W h hs⟩
  have HLE : Aside0 (∀ W, IsLog W L d 0 200 1 all 0 → Calls Tryz.prog 9 #[.pointer (some ⟨L, 0, none⟩)] W fun e w' => e = .returned (.tuple #[.int .i64 (leadTo (recsF all).1 (recsF all).1.length).1, .int .i64 (leadTo (recsF all).1 (recsF all).1.length).2]) ∧ Below W.heap.size W w') := ⟨fun W h => redo_Leader L d 0 200 1 all 0 W h hs⟩
  have HCH : Aside0 (∀ W, IsLog W L d 0 200 1 all 0 → Calls Tryz.prog 10 #[.pointer (some ⟨L, 0, none⟩)] W fun e w' => e = .returned (.int .i64 (checkTo (recsF all).1 (recsF all).2 (recsF all).1.length)) ∧ Below W.heap.size W w') := ⟨fun W h => redo_Check L d 0 200 1 all 0 W h hs⟩
  have HCO : Aside0 (∀ W, IsLog W L d 0 200 1 all 0 → Calls Tryz.prog 12 #[.pointer (some ⟨L, 0, none⟩), .int .i64 en] W fun e w' => ∃ v, e = .returned v ∧ Kd.R k36 36 w' W.heap.size (fun _ => True) v (commTo (recsF all).1 (recsF all).2 en (recsF all).1.length) ∧ Below W.heap.size W w') := ⟨fun W h => redo_Commits L d 0 200 1 all 0 en W h hs⟩
  have HLN := Aside0.mk (recsF_len all hs)
  generalize recsF all = RP at *
  obtain ⟨rs, ps⟩ := RP
  dsimp only at HREC HSP HLE HCH HCO HLN
  have L0 := Aside0.mk hL; have B0 := Aside0.mk hb; clear hL hs hb HLOG
  go_wp2_with fail
  refine HREC.out.mono ?_
  rintro e w1 ⟨v1, v2, rfl, q1, q2, hb⟩
  obtain ⟨A2, c2, rfl⟩ := Kd.R_slice q1
  obtain ⟨A3, c3, rfl⟩ := Kd.R_slice q2
  have Q1 := Aside0.mk (Kd.R_reads' q1).2.2
  have Q2 := Aside0.mk (Kd.R_reads' q2).2.2
  have L1 := Aside0.mk (IsLog.below L0.out hb); have B1 := Aside0.mk (below_step B0.out hb); clear q1 q2 hb HREC L0 B0
  go_wp2_with fail
  go_loopg [8, 9, 10, 11, 12, 13] (rs.length) (fun kq v8 v9 v10 v11 v12 v13 w' => ∃ i : Int, v13 = .int .i64 i ∧ v10 = .int .i64 (checkTo rs ps i.toNat) ∧ v11 = .int .i64 (leadTo rs i.toNat).1 ∧ v12 = .int .i64 (leadTo rs i.toNat).2 ∧ Aside0 (0 ≤ i ∧ i.toNat + kq = rs.length) ∧ Aside0 (Kd.R k34 34 w' w1.heap.size (fun _ => True) v8 (spansTo rs ps i.toNat)) ∧ Aside0 (Kd.R k36 36 w' w1.heap.size (fun _ => True) v9 (commTo rs ps en i.toNat)) ∧ Aside0 (Below w1.heap.size w1 w'))
  case atStart => exact ⟨0, rfl, rfl, rfl, rfl, ⟨by omega, by simp⟩, ⟨Kd.R_nil _ _ _ _ _⟩, ⟨Kd.R_nil _ _ _ _ _⟩, ⟨Below.refl _ _⟩⟩
  case round =>
    obtain ⟨i, rfl, rfl, rfl, rfl, HN, HO8, HO9, HB⟩ := hrel
    cases gk with
    | zero =>
      have b0 : decide (i < (rs.length : Int)) = false := decide_eq_false (by have := HN.out; omega)
      have hn : i.toNat = rs.length := by have := HN.out; omega
      rw [hn] at HO8 HO9 ⊢
      clear hn
      obtain ⟨A8, c8, rfl⟩ := Kd.R_slice HO8.out
      obtain ⟨A99, c99, rfl⟩ := Kd.R_slice HO9.out
      have P8 := Aside0.mk (Kd.R_reads' HO8.out)
      have P9 := Aside0.mk (Kd.R_reads' HO9.out)
      have LR := Aside0.mk (IsLog.below L1.out HB.out); have BR := Aside0.mk (below_step B1.out HB.out); have HSL := Aside0.mk (redo_Spans_len rs ps rs.length); have HCL := Aside0.mk (redo_Commits_len rs ps en rs.length); clear HO8 HO9 HB Q1 Q2 L1 B1
      generalize spansTo rs ps rs.length = SP at *
      generalize commTo rs ps en rs.length = CM at *
      generalize checkTo rs ps rs.length = CK at *
      generalize leadTo rs rs.length = LD at *
      go_wp2_with fail
      refine (HSP.out wr LR.out).mono ?_
      rintro e w3 ⟨v3, rfl, q3, hb⟩
      obtain ⟨A4, c4, rfl⟩ := Kd.R_slice q3
      have P4 := Aside0.mk (Kd.R_reads' q3)
      have P83 := Aside0.mk (Kd.C_below P8.out.2.2 hb); have P93 := Aside0.mk (Kd.C_below P9.out.2.2 hb); have L3 := Aside0.mk (IsLog.below LR.out hb); have B3 := Aside0.mk (below_step BR.out hb); clear q3 hb LR BR HSP
      go_wp2_with fail
      go_loopg [15] (SP.length) (fun kq v15 w' => ∃ j : Int, v15 = .int .i64 j ∧ Aside0 (0 ≤ j ∧ j.toNat + kq = SP.length) ∧ Drawn0 w3 w')
      case atStart => exact ⟨0, rfl, ⟨by omega, by simp⟩, Drawn0.refl _⟩
      case round =>
        obtain ⟨j, rfl, HJ, hD⟩ := hrel
        cases gk with
        | zero =>
          have b1 : decide (j < (SP.length : Int)) = false := decide_eq_false (by have := HJ.out; omega)
          have hB := Drawn0.below hD; have L4 := Aside0.mk (IsLog.below L3.out hB); have B4 := Aside0.mk (below_step B3.out hB); have P94 := Aside0.mk (Kd.C_below P93.out hB); clear hB hD L3 B3 P93
          go_wp2_with fail
          refine (HLE.out _ L4.out).mono ?_
          rintro e w5 ⟨rfl, hb⟩
          have L5 := Aside0.mk (IsLog.below L4.out hb); have B5 := Aside0.mk (below_step B4.out hb); have P95 := Aside0.mk (Kd.C_below P94.out hb); clear hb L4 B4 P94 HLE
          go_wp2_with fail
          refine (HCH.out _ L5.out).mono ?_
          rintro e w6 ⟨rfl, hb⟩
          have L6 := Aside0.mk (IsLog.below L5.out hb); have B6 := Aside0.mk (below_step B5.out hb); have P96 := Aside0.mk (Kd.C_below P95.out hb); clear hb L5 B5 P95 HCH
          go_wp2_with fail
          refine (HCO.out _ L6.out).mono ?_
          rintro e w7 ⟨v7, rfl, q7, hb⟩
          obtain ⟨A7, c7, rfl⟩ := Kd.R_slice q7
          have P7 := Aside0.mk (Kd.R_reads' q7)
          have B7 := Aside0.mk (below_step B6.out hb); have P97 := Aside0.mk (Kd.C_below P96.out hb); clear hb q7 L6 B6 P96 HCO
          go_wp2_with fail
          refine (gharrylaw15_same.calls 100001 A7 c7 CM A99 c99 CM true w7 P7.out.2.2 P7.out.2.1 P97.out P9.out.2.1 (same_self CM (by have := HCL.out; have := HLN.out.2; omega))).mono ?_
          rintro e w8 ⟨rfl, hD⟩
          have B8 := Aside0.mk (below_step B7.out (Drawn0.below hD)); clear hD B7 P97
          go_wp2_with fail
          refine (gharrylaw15_awake.calls 10 true w8 awake_true).mono ?_
          rintro e w9 ⟨rfl, hb⟩
          have B9 := Aside0.mk (below_step B8.out hb); clear hb B8
          go_wp2_with fail
          go_ret
          exact ⟨rfl, B9.out⟩
        | succ k1 =>
          obtain ⟨m1, rfl⟩ := hD
          have hj : j < (SP.length : Int) := by have := HJ.out; omega
          have hj0 : 0 ≤ j := HJ.out.1
          have b1 : decide (j < (SP.length : Int)) = true := decide_eq_true hj
          have hw : wrap64 (j + 1) = j + 1 := w64 (by omega) (by have := HSL.out; have := HLN.out.2; omega)
          have hnx : (j + 1).toNat = j.toNat + 1 := by omega
          obtain ⟨ad1, rfl, y0, y1⟩ := at_T34 P4.out.2.2 j hj0 hj
          obtain ⟨ad2, rfl, y2, y3⟩ := at_T34 P83.out j hj0 hj
          go_wp2
          repeat (go_quiet (fail); try go_wp2)
          go_roundg k1
          case measure => omega
          case rel => exact ⟨j + 1, by first | rfl | rw [hw], ⟨by omega, by have := HJ.out; omega⟩, by repeat (first | exact Drawn0.refl _ | apply Drawn0.step)⟩
    | succ k1 =>
      have hi : i < (rs.length : Int) := by have := HN.out; omega
      have hi2 : i < (ps.length : Int) := by have := HLN.out.1; have := HN.out; omega
      have h0 : 0 ≤ i := HN.out.1
      have b0 : decide (i < (rs.length : Int)) = true := decide_eq_true hi
      have hw : wrap64 (i + 1) = i + 1 := w64 (by omega) (by have := HLN.out.2; omega)
      have hnx : (i + 1).toNat = i.toNat + 1 := by omega
      obtain ⟨ad, A9, c9, A10, c10, rfl, z0, z1, z2, z3, z4, z5, z6, z7, z8, z9, z10, z11, z12, _⟩ := at_Rec Q1.out i h0 hi
      obtain ⟨ad2, rfl, x0⟩ := Kd.at_int Q2.out i h0 hi2
      have r0 := below_cell HB.out z0; have r1 := below_cell HB.out z1; have r11 := below_cell HB.out z11; have r12 := below_cell HB.out z12; have r2x := below_cell HB.out x0; clear z2 z3 z4 z5 z6 z7 z8 z9 z10
      by_cases k10 : (rd_Rec rs i).1 = 10
      · have b10 : ((rd_Rec rs i).1 == 10) = true := beq_iff_eq.mpr k10
        have hs1 : spansTo rs ps (i.toNat + 1) = spansTo rs ps i.toNat ++ [⟨(rd_Rec rs i).2.2.2.2.2.2.2.2.2.2.2.1, rd ps i⟩] := if_pos k10
        have hs2 : commTo rs ps en (i.toNat + 1) = commTo rs ps en i.toNat := if_neg (fun h => zkind k10 (by decide) h.1)
        have hs3 : checkTo rs ps (i.toNat + 1) = checkTo rs ps i.toNat := if_neg (zkind k10 (by decide))
        have hs4 : leadTo rs (i.toNat + 1) = ((rd_Rec rs i).2.2.2.2.2.2.2.2.2.2.2.1, (rd_Rec rs i).2.2.2.2.2.2.2.2.2.2.2.2) := if_pos k10
        clear k10
        go_wp2_with fail
        refine start_ (n := 14) (S := fun w' => Below wr.drew.heap.size wr.drew w') (ds := [12]) #[false, false, false, false, false, false, false, false, false, false, false, false, false, false] (by kernel_rfl) rfl rfl (Below.refl _ _) (fun hHeld => ?_); refine with_tabW law_Spans.tab14 law_Spans.bits14 (fun HT_ HW_ => ?_)
        have m1_ := Aside0.mk (Kd.R_drew HO9.out); have m3_ := Aside0.mk (Kd.R_drew HO8.out); have m4_ := Aside0.mk (below_drew HB.out)
        have m5_ := Aside0.mk (show (spansTo rs ps i.toNat).length ≤ 11600 by have := redo_Spans_len rs ps i.toNat; have := HLN.out.2; omega)
        have f1_ : Aside0 (wr.drew.cell? ⟨(ad.add (i.toNat * 13)).block, (ad.add (i.toNat * 13)).off + 11, none⟩ = some (.int .i64 (rd_Rec rs i).2.2.2.2.2.2.2.2.2.2.2.1)) := ⟨below_cell m4_.out z11⟩
        have f2_ : Aside0 (wr.drew.cell? (ad2.add i.toNat) = some (.int .i64 (rd ps i))) := ⟨below_cell m4_.out x0⟩
        clear r0 r1 r11 r12 r2x
        generalize wr.drew = W0 at m1_ m3_ m4_ f1_ f2_ hHeld ⊢
        refine pure_ (i := 0) (N := some 40) (v := ?_) (a' := ?_) #[true, false, false, false, false, false, false, false, false, false, false, false, false, false] rfl rfl (any_of HT_.out (by kernel_rfl)) (fun _ _ _ h => h) (Or.inl ⟨by rfl, ?_⟩) ?_ ?_
        rotate_left
        · intro w'
          go_simp
          with_reducible rfl
        rotate_left
        · simp only [Act.put, List.setIfInBounds_toArray, List.set_cons_zero, List.set_cons_succ, i64_w, i32_w]
          rfl
        refine pure_ (i := 1) (N := some 41) (v := ?_) (a' := ?_) #[true, true, false, false, false, false, false, false, false, false, false, false, false, false] rfl rfl (any_of HT_.out (by kernel_rfl)) (fun _ _ _ h => h) (Or.inl ⟨by rfl, ?_⟩) ?_ ?_
        rotate_left
        · intro w'
          go_simp
          with_reducible rfl
        rotate_left
        · simp only [Act.put, List.setIfInBounds_toArray, List.set_cons_zero, List.set_cons_succ, i64_w, i32_w]
          rfl
        refine pure_ (i := 2) (N := some 42) (v := ?_) (a' := ?_) #[true, true, true, false, false, false, false, false, false, false, false, false, false, false] rfl rfl (any_of HT_.out (by kernel_rfl)) (fun _ _ _ h => h) (Or.inl ⟨by rfl, ?_⟩) ?_ ?_
        rotate_left
        · intro w'
          go_simp
          with_reducible rfl
        rotate_left
        · simp only [Act.put, List.setIfInBounds_toArray, List.set_cons_zero, List.set_cons_succ, i64_w, i32_w]
          rfl
        refine pure_ (i := 3) (N := some 43) (v := ?_) (a' := ?_) #[true, true, true, true, false, false, false, false, false, false, false, false, false, false] rfl rfl (any_of HT_.out (by kernel_rfl)) (fun _ _ _ h => h) (Or.inl ⟨by rfl, ?_⟩) ?_ ?_
        rotate_left
        · intro w'
          go_simp
          with_reducible rfl
        rotate_left
        · simp only [Act.put, List.setIfInBounds_toArray, List.set_cons_zero, List.set_cons_succ, i64_w, i32_w]
          rfl
        refine pure_ (i := 4) (N := some 44) (v := ?_) (a' := ?_) #[true, true, true, true, true, false, false, false, false, false, false, false, false, false] rfl rfl (any_of HT_.out (by kernel_rfl)) (fun _ _ _ h => h) (Or.inl ⟨by rfl, ?_⟩) ?_ ?_
        rotate_left
        · intro w'
          go_simp
          with_reducible rfl
        rotate_left
        · simp only [Act.put, List.setIfInBounds_toArray, List.set_cons_zero, List.set_cons_succ, i64_w, i32_w]
          rfl
        refine take_ (i := 5) (N := some 45) (v := ?_) (a' := ?_) #[true, true, true, true, true, true, false, false, false, false, false, false, false, false] rfl rfl (take_ofW HT_.out HW_.out (by kernel_rfl)) (fun _ _ _ h => h) (Or.inl ⟨by rfl, ?_⟩) hHeld ?_ ?_
        rotate_left
        · intro w' hs
          have s1 := below_cell hs f1_.out; have s2 := below_cell hs f2_.out
          go_simp
          with_reducible rfl
        rotate_left
        · simp only [Act.put, List.setIfInBounds_toArray, List.set_cons_zero, List.set_cons_succ, i64_w, i32_w]
          rfl
        refine pure_ (i := 6) (N := some 46) (v := ?_) (a' := ?_) #[true, true, true, true, true, true, true, false, false, false, false, false, false, false] rfl rfl (any_of HT_.out (by kernel_rfl)) (fun _ _ _ h => h) (Or.inl ⟨by rfl, ?_⟩) ?_ ?_
        rotate_left
        · intro w'
          go_simp
          with_reducible rfl
        rotate_left
        · simp only [Act.put, List.setIfInBounds_toArray, List.set_cons_zero, List.set_cons_succ, i64_w, i32_w]
          rfl
        refine pure_ (i := 7) (N := some 47) (v := ?_) (a' := ?_) #[true, true, true, true, true, true, true, true, false, false, false, false, false, false] rfl rfl (any_of HT_.out (by kernel_rfl)) (fun _ _ _ h => h) (Or.inl ⟨by rfl, ?_⟩) ?_ ?_
        rotate_left
        · intro w'
          go_simp
          with_reducible rfl
        rotate_left
        · simp only [Act.put, List.setIfInBounds_toArray, List.set_cons_zero, List.set_cons_succ, i64_w, i32_w]
          rfl
        refine pure_ (i := 8) (N := some 48) (v := ?_) (a' := ?_) #[true, true, true, true, true, true, true, true, true, false, false, false, false, false] rfl rfl (any_of HT_.out (by kernel_rfl)) (fun _ _ _ h => h) (Or.inl ⟨by rfl, ?_⟩) ?_ ?_
        rotate_left
        · intro w'
          go_simp
          with_reducible rfl
        rotate_left
        · simp only [Act.put, List.setIfInBounds_toArray, List.set_cons_zero, List.set_cons_succ, i64_w, i32_w]
          rfl
        refine take_ (i := 9) (N := some 49) (v := ?_) (a' := ?_) #[true, true, true, true, true, true, true, true, true, true, false, false, false, false] rfl rfl (take_ofW HT_.out HW_.out (by kernel_rfl)) (fun _ _ _ h => h) (Or.inl ⟨by rfl, ?_⟩) hHeld ?_ ?_
        rotate_left
        · intro w' hs
          have s1 := below_cell hs f1_.out; have s2 := below_cell hs f2_.out
          go_simp
          with_reducible rfl
        rotate_left
        · simp only [Act.put, List.setIfInBounds_toArray, List.set_cons_zero, List.set_cons_succ, i64_w, i32_w]
          rfl
        refine pure_ (i := 10) (N := some 50) (v := ?_) (a' := ?_) #[true, true, true, true, true, true, true, true, true, true, true, false, false, false] rfl rfl (any_of HT_.out (by kernel_rfl)) (fun _ _ _ h => h) (Or.inl ⟨by rfl, ?_⟩) ?_ ?_
        rotate_left
        · intro w'
          go_simp
          with_reducible rfl
        rotate_left
        · simp only [Act.put, List.setIfInBounds_toArray, List.set_cons_zero, List.set_cons_succ, i64_w, i32_w]
          rfl
        refine one_ (i := 11) (N := some 51) #[true, true, true, true, true, true, true, true, true, true, true, true, false, false] rfl rfl (one_of HT_.out (by kernel_rfl)) (by decide) (fun K hK => ?_)
        with_reducible refine val_step (N := some 51) (.slice (some ⟨W0.heap.size, 0, none⟩) 1 1) (w1 := W0.alloc (.cells #[.int .i64 (rd_Rec rs i).2.2.2.2.2.2.2.2.2.2.2.1, .int .i64 (rd ps i)] 34)) ?hw ?hd ?hr ?_
        case hw => rfl
        case hd => rfl
        case hr => first | (go_simp; done) | (go_simp; rfl)
        refine hK.out _ _ (below_alloc hHeld _) (fun hHeld2 => ?_)
        clear hK K
        refine norm_ (a' := ?_) ?_ ?_
        rotate_left
        · simp only [Act.put, List.setIfInBounds_toArray, List.set_cons_zero, List.set_cons_succ]
          rfl
        refine last_ (i := 12) (N := some 52) #[true, true, true, true, true, true, true, true, true, true, true, true, true, false] rfl rfl (one_of HT_.out (by kernel_rfl)) (by decide) (fun K hK => ?_)
        with_reducible refine app_step (w0 := w1) k34 w1.heap.size ?hw ?hd (.tmp 40) (.tmp 51) 28 34 (.agg #[.int .i64 0, .int .i64 0]) 16 ?ao ?aT ?ai ?az ?a0 ?a1 u8 (spansTo rs ps i.toNat) ⟨(rd_Rec rs i).2.2.2.2.2.2.2.2.2.2.2.1, rd ps i⟩ [.int .i64 (rd_Rec rs i).2.2.2.2.2.2.2.2.2.2.2.1, .int .i64 (rd ps i)] (fun _ => True) (fun _ => False) ?hs ?hx ?aP (fun _ hk => hk.elim) ?aF ?aO ?aB ?aS ?aL ?_
        case hw => rfl
        case hd => rfl
        case ao => rfl
        case aT => exact Tryz.underlying28
        case ai => exact info34
        case az => rfl
        case a0 => decide
        case a1 => omega
        case hs => rfl
        case hx => rfl
        case aP => exact k34_mkM _ _ _ _
        case aF => exact (fun _ _ => trivial)
        case aO => exact m3_.out
        case aB => exact m4_.out
        case aS => exact m4_.out.size
        case aL => have := m5_.out; omega
        intro v1 w2 ho hb hg hat
        refine hK.out _ _ ?_
        clear hK K; have n3_ := Aside0.mk ho; have n1_ := Aside0.mk (R_apart m3_.out m1_.out hg (by decide)); have n4_ := Aside0.mk hb; clear ho hb hg hat
        refine norm_ (a' := ?_) ?_ ?_
        rotate_left
        · simp only [Act.put, List.setIfInBounds_toArray, List.set_cons_zero, List.set_cons_succ]
          rfl
        refine pure_ (i := 13) (N := some 8) (v := ?_) (a' := ?_) #[true, true, true, true, true, true, true, true, true, true, true, true, true, true] rfl rfl (any_of HT_.out (by kernel_rfl)) (fun _ _ _ h => h) (Or.inl ⟨by rfl, ?_⟩) ?_ ?_
        rotate_left
        · intro w'
          go_simp
          with_reducible rfl
        rotate_left
        · simp only [Act.put, List.setIfInBounds_toArray, List.set_cons_zero, List.set_cons_succ, i64_w, i32_w]
          rfl
        refine done_ (done_of HT_.out (by kernel_rfl)) ?_
        have g11 := below_cell n4_.out z11; have g12 := below_cell n4_.out z12
        go_wp2_with fail
        go_roundg k1
        case measure => omega
        case rel => exact ⟨i + 1, by first | rfl | rw [hw], by rw [hnx, hs3], by rw [hnx, hs4], by rw [hnx, hs4], ⟨by omega, by have := HN.out; omega⟩, ⟨by rw [hnx, hs1]; exact n3_.out⟩, ⟨by rw [hnx, hs2]; exact n1_.out⟩, n4_⟩
      · by_cases k9 : (rd_Rec rs i).1 = 9
        · have b9 : ((rd_Rec rs i).1 == 9) = true := beq_iff_eq.mpr k9
          have b10 : ((rd_Rec rs i).1 == 10) = false := beq_eq_false_iff_ne.mpr k10
          have hs1 : spansTo rs ps (i.toNat + 1) = spansTo rs ps i.toNat := if_neg (zkind k9 (by decide))
          have hs2 : commTo rs ps en (i.toNat + 1) = commTo rs ps en i.toNat := if_neg (fun h => zkind k9 (by decide) h.1)
          have hs3 : checkTo rs ps (i.toNat + 1) = rd ps i := if_pos k9
          have hs4 : leadTo rs (i.toNat + 1) = leadTo rs i.toNat := if_neg (zkind k9 (by decide))
          clear k9 k10
          go_wp2_with fail
          go_roundg k1
          case measure => omega
          case rel => exact ⟨i + 1, by first | rfl | rw [hw], by rw [hnx, hs3], by rw [hnx, hs4], by rw [hnx, hs4], ⟨by omega, by have := HN.out; omega⟩, ⟨by rw [hnx, hs1]; exact HO8.out⟩, ⟨by rw [hnx, hs2]; exact HO9.out⟩, HB⟩
        · by_cases k7 : (rd_Rec rs i).1 = 7
          · have b7 : ((rd_Rec rs i).1 == 7) = true := beq_iff_eq.mpr k7
            have b10 : ((rd_Rec rs i).1 == 10) = false := beq_eq_false_iff_ne.mpr k10
            have b9 : ((rd_Rec rs i).1 == 9) = false := beq_eq_false_iff_ne.mpr k9
            by_cases kc : rd ps i < en
            · have bc : decide (rd ps i < en) = true := decide_eq_true kc
              have hs1 : spansTo rs ps (i.toNat + 1) = spansTo rs ps i.toNat := if_neg (zkind k7 (by decide))
              have hs2 : commTo rs ps en (i.toNat + 1) = commTo rs ps en i.toNat ++ [⟨(rd_Rec rs i).2.1, rd ps i⟩] := if_pos ⟨k7, kc⟩
              have hs3 : checkTo rs ps (i.toNat + 1) = checkTo rs ps i.toNat := if_neg (zkind k7 (by decide))
              have hs4 : leadTo rs (i.toNat + 1) = leadTo rs i.toNat := if_neg (zkind k7 (by decide))
              clear k7 k9 k10 kc
              go_wp2_with fail
              refine start_ (n := 14) (S := fun w' => Below wr.drew.heap.size wr.drew w') (ds := [12]) #[false, false, false, false, false, false, false, false, false, false, false, false, false, false] (by kernel_rfl) rfl rfl (Below.refl _ _) (fun hHeld => ?_); refine with_tabW law_Spans.tab21 law_Spans.bits21 (fun HT_ HW_ => ?_)
              have m1_ := Aside0.mk (Kd.R_drew HO9.out); have m3_ := Aside0.mk (Kd.R_drew HO8.out); have m4_ := Aside0.mk (below_drew HB.out)
              have m5_ := Aside0.mk (show (commTo rs ps en i.toNat).length ≤ 11600 by have := redo_Commits_len rs ps en i.toNat; have := HLN.out.2; omega)
              have f1_ : Aside0 (wr.drew.cell? ⟨(ad.add (i.toNat * 13)).block, (ad.add (i.toNat * 13)).off + 1, none⟩ = some (.int .i64 (rd_Rec rs i).2.1)) := ⟨below_cell m4_.out z1⟩
              have f2_ : Aside0 (wr.drew.cell? (ad2.add i.toNat) = some (.int .i64 (rd ps i))) := ⟨below_cell m4_.out x0⟩
              clear r0 r1 r11 r12 r2x
              generalize wr.drew = W0 at m1_ m3_ m4_ f1_ f2_ hHeld ⊢
              refine pure_ (i := 0) (N := some 77) (v := ?_) (a' := ?_) #[true, false, false, false, false, false, false, false, false, false, false, false, false, false] rfl rfl (any_of HT_.out (by kernel_rfl)) (fun _ _ _ h => h) (Or.inl ⟨by rfl, ?_⟩) ?_ ?_
              rotate_left
              · intro w'
                go_simp
                with_reducible rfl
              rotate_left
              · simp only [Act.put, List.setIfInBounds_toArray, List.set_cons_zero, List.set_cons_succ, i64_w, i32_w]
                rfl
              refine pure_ (i := 1) (N := some 78) (v := ?_) (a' := ?_) #[true, true, false, false, false, false, false, false, false, false, false, false, false, false] rfl rfl (any_of HT_.out (by kernel_rfl)) (fun _ _ _ h => h) (Or.inl ⟨by rfl, ?_⟩) ?_ ?_
              rotate_left
              · intro w'
                go_simp
                with_reducible rfl
              rotate_left
              · simp only [Act.put, List.setIfInBounds_toArray, List.set_cons_zero, List.set_cons_succ, i64_w, i32_w]
                rfl
              refine pure_ (i := 2) (N := some 79) (v := ?_) (a' := ?_) #[true, true, true, false, false, false, false, false, false, false, false, false, false, false] rfl rfl (any_of HT_.out (by kernel_rfl)) (fun _ _ _ h => h) (Or.inl ⟨by rfl, ?_⟩) ?_ ?_
              rotate_left
              · intro w'
                go_simp
                with_reducible rfl
              rotate_left
              · simp only [Act.put, List.setIfInBounds_toArray, List.set_cons_zero, List.set_cons_succ, i64_w, i32_w]
                rfl
              refine pure_ (i := 3) (N := some 80) (v := ?_) (a' := ?_) #[true, true, true, true, false, false, false, false, false, false, false, false, false, false] rfl rfl (any_of HT_.out (by kernel_rfl)) (fun _ _ _ h => h) (Or.inl ⟨by rfl, ?_⟩) ?_ ?_
              rotate_left
              · intro w'
                go_simp
                with_reducible rfl
              rotate_left
              · simp only [Act.put, List.setIfInBounds_toArray, List.set_cons_zero, List.set_cons_succ, i64_w, i32_w]
                rfl
              refine pure_ (i := 4) (N := some 81) (v := ?_) (a' := ?_) #[true, true, true, true, true, false, false, false, false, false, false, false, false, false] rfl rfl (any_of HT_.out (by kernel_rfl)) (fun _ _ _ h => h) (Or.inl ⟨by rfl, ?_⟩) ?_ ?_
              rotate_left
              · intro w'
                go_simp
                with_reducible rfl
              rotate_left
              · simp only [Act.put, List.setIfInBounds_toArray, List.set_cons_zero, List.set_cons_succ, i64_w, i32_w]
                rfl
              refine take_ (i := 5) (N := some 82) (v := ?_) (a' := ?_) #[true, true, true, true, true, true, false, false, false, false, false, false, false, false] rfl rfl (take_ofW HT_.out HW_.out (by kernel_rfl)) (fun _ _ _ h => h) (Or.inl ⟨by rfl, ?_⟩) hHeld ?_ ?_
              rotate_left
              · intro w' hs
                have s1 := below_cell hs f1_.out; have s2 := below_cell hs f2_.out
                go_simp
                with_reducible rfl
              rotate_left
              · simp only [Act.put, List.setIfInBounds_toArray, List.set_cons_zero, List.set_cons_succ, i64_w, i32_w]
                rfl
              refine pure_ (i := 6) (N := some 83) (v := ?_) (a' := ?_) #[true, true, true, true, true, true, true, false, false, false, false, false, false, false] rfl rfl (any_of HT_.out (by kernel_rfl)) (fun _ _ _ h => h) (Or.inl ⟨by rfl, ?_⟩) ?_ ?_
              rotate_left
              · intro w'
                go_simp
                with_reducible rfl
              rotate_left
              · simp only [Act.put, List.setIfInBounds_toArray, List.set_cons_zero, List.set_cons_succ, i64_w, i32_w]
                rfl
              refine pure_ (i := 7) (N := some 84) (v := ?_) (a' := ?_) #[true, true, true, true, true, true, true, true, false, false, false, false, false, false] rfl rfl (any_of HT_.out (by kernel_rfl)) (fun _ _ _ h => h) (Or.inl ⟨by rfl, ?_⟩) ?_ ?_
              rotate_left
              · intro w'
                go_simp
                with_reducible rfl
              rotate_left
              · simp only [Act.put, List.setIfInBounds_toArray, List.set_cons_zero, List.set_cons_succ, i64_w, i32_w]
                rfl
              refine pure_ (i := 8) (N := some 85) (v := ?_) (a' := ?_) #[true, true, true, true, true, true, true, true, true, false, false, false, false, false] rfl rfl (any_of HT_.out (by kernel_rfl)) (fun _ _ _ h => h) (Or.inl ⟨by rfl, ?_⟩) ?_ ?_
              rotate_left
              · intro w'
                go_simp
                with_reducible rfl
              rotate_left
              · simp only [Act.put, List.setIfInBounds_toArray, List.set_cons_zero, List.set_cons_succ, i64_w, i32_w]
                rfl
              refine take_ (i := 9) (N := some 86) (v := ?_) (a' := ?_) #[true, true, true, true, true, true, true, true, true, true, false, false, false, false] rfl rfl (take_ofW HT_.out HW_.out (by kernel_rfl)) (fun _ _ _ h => h) (Or.inl ⟨by rfl, ?_⟩) hHeld ?_ ?_
              rotate_left
              · intro w' hs
                have s1 := below_cell hs f1_.out; have s2 := below_cell hs f2_.out
                go_simp
                with_reducible rfl
              rotate_left
              · simp only [Act.put, List.setIfInBounds_toArray, List.set_cons_zero, List.set_cons_succ, i64_w, i32_w]
                rfl
              refine pure_ (i := 10) (N := some 87) (v := ?_) (a' := ?_) #[true, true, true, true, true, true, true, true, true, true, true, false, false, false] rfl rfl (any_of HT_.out (by kernel_rfl)) (fun _ _ _ h => h) (Or.inl ⟨by rfl, ?_⟩) ?_ ?_
              rotate_left
              · intro w'
                go_simp
                with_reducible rfl
              rotate_left
              · simp only [Act.put, List.setIfInBounds_toArray, List.set_cons_zero, List.set_cons_succ, i64_w, i32_w]
                rfl
              refine one_ (i := 11) (N := some 88) #[true, true, true, true, true, true, true, true, true, true, true, true, false, false] rfl rfl (one_of HT_.out (by kernel_rfl)) (by decide) (fun K hK => ?_)
              with_reducible refine val_step (N := some 88) (.slice (some ⟨W0.heap.size, 0, none⟩) 1 1) (w1 := W0.alloc (.cells #[.int .i64 (rd_Rec rs i).2.1, .int .i64 (rd ps i)] 36)) ?hw ?hd ?hr ?_
              case hw => rfl
              case hd => rfl
              case hr => first | (go_simp; done) | (go_simp; rfl)
              refine hK.out _ _ (below_alloc hHeld _) (fun hHeld2 => ?_)
              clear hK K
              refine norm_ (a' := ?_) ?_ ?_
              rotate_left
              · simp only [Act.put, List.setIfInBounds_toArray, List.set_cons_zero, List.set_cons_succ]
                rfl
              refine last_ (i := 12) (N := some 89) #[true, true, true, true, true, true, true, true, true, true, true, true, true, false] rfl rfl (one_of HT_.out (by kernel_rfl)) (by decide) (fun K hK => ?_)
              with_reducible refine app_step (w0 := w1) k36 w1.heap.size ?hw ?hd (.tmp 77) (.tmp 88) 29 36 (.agg #[.int .i64 0, .int .i64 0]) 16 ?ao ?aT ?ai ?az ?a0 ?a1 u9 (commTo rs ps en i.toNat) ⟨(rd_Rec rs i).2.1, rd ps i⟩ [.int .i64 (rd_Rec rs i).2.1, .int .i64 (rd ps i)] (fun _ => True) (fun _ => False) ?hs ?hx ?aP (fun _ hk => hk.elim) ?aF ?aO ?aB ?aS ?aL ?_
              case hw => rfl
              case hd => rfl
              case ao => rfl
              case aT => exact Tryz.underlying29
              case ai => exact info36
              case az => rfl
              case a0 => decide
              case a1 => omega
              case hs => rfl
              case hx => rfl
              case aP => exact k36_mkM _ _ _ _
              case aF => exact (fun _ _ => trivial)
              case aO => exact m1_.out
              case aB => exact m4_.out
              case aS => exact m4_.out.size
              case aL => have := m5_.out; omega
              intro v1 w2 ho hb hg hat
              refine hK.out _ _ ?_
              clear hK K; have n1_ := Aside0.mk ho; have n3_ := Aside0.mk (R_apart m1_.out m3_.out hg (by decide)); have n4_ := Aside0.mk hb; clear ho hb hg hat
              refine norm_ (a' := ?_) ?_ ?_
              rotate_left
              · simp only [Act.put, List.setIfInBounds_toArray, List.set_cons_zero, List.set_cons_succ]
                rfl
              refine pure_ (i := 13) (N := some 9) (v := ?_) (a' := ?_) #[true, true, true, true, true, true, true, true, true, true, true, true, true, true] rfl rfl (any_of HT_.out (by kernel_rfl)) (fun _ _ _ h => h) (Or.inl ⟨by rfl, ?_⟩) ?_ ?_
              rotate_left
              · intro w'
                go_simp
                with_reducible rfl
              rotate_left
              · simp only [Act.put, List.setIfInBounds_toArray, List.set_cons_zero, List.set_cons_succ, i64_w, i32_w]
                rfl
              refine done_ (done_of HT_.out (by kernel_rfl)) ?_
              go_wp2_with fail
              go_roundg k1
              case measure => omega
              case rel => exact ⟨i + 1, by first | rfl | rw [hw], by rw [hnx, hs3], by rw [hnx, hs4], by rw [hnx, hs4], ⟨by omega, by have := HN.out; omega⟩, ⟨by rw [hnx, hs1]; exact n3_.out⟩, ⟨by rw [hnx, hs2]; exact n1_.out⟩, n4_⟩
            · have bc : decide (rd ps i < en) = false := decide_eq_false kc
              have hs1 : spansTo rs ps (i.toNat + 1) = spansTo rs ps i.toNat := if_neg (zkind k7 (by decide))
              have hs2 : commTo rs ps en (i.toNat + 1) = commTo rs ps en i.toNat := if_neg (fun h => kc h.2)
              have hs3 : checkTo rs ps (i.toNat + 1) = checkTo rs ps i.toNat := if_neg (zkind k7 (by decide))
              have hs4 : leadTo rs (i.toNat + 1) = leadTo rs i.toNat := if_neg (zkind k7 (by decide))
              clear k7 k9 k10 kc
              go_wp2_with fail
              go_roundg k1
              case measure => omega
              case rel => exact ⟨i + 1, by first | rfl | rw [hw], by rw [hnx, hs3], by rw [hnx, hs4], by rw [hnx, hs4], ⟨by omega, by have := HN.out; omega⟩, ⟨by rw [hnx, hs1]; exact HO8.out⟩, ⟨by rw [hnx, hs2]; exact HO9.out⟩, HB⟩
          · have b10 : ((rd_Rec rs i).1 == 10) = false := beq_eq_false_iff_ne.mpr k10
            have b9 : ((rd_Rec rs i).1 == 9) = false := beq_eq_false_iff_ne.mpr k9
            have b7 : ((rd_Rec rs i).1 == 7) = false := beq_eq_false_iff_ne.mpr k7
            have hs1 : spansTo rs ps (i.toNat + 1) = spansTo rs ps i.toNat := if_neg (k10)
            have hs2 : commTo rs ps en (i.toNat + 1) = commTo rs ps en i.toNat := if_neg (fun h => k7 h.1)
            have hs3 : checkTo rs ps (i.toNat + 1) = checkTo rs ps i.toNat := if_neg (k9)
            have hs4 : leadTo rs (i.toNat + 1) = leadTo rs i.toNat := if_neg (k10)
            clear k7 k9 k10
            go_wp2_with fail
            go_roundg k1
            case measure => omega
            case rel => exact ⟨i + 1, by first | rfl | rw [hw], by rw [hnx, hs3], by rw [hnx, hs4], by rw [hnx, hs4], ⟨by omega, by have := HN.out; omega⟩, ⟨by rw [hnx, hs1]; exact HO8.out⟩, ⟨by rw [hnx, hs2]; exact HO9.out⟩, HB⟩
end Go.Proofs.YteoebfiacnploaaGreat.HRec
