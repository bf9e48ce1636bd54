/- Texts of this proof, put together: RedoE, PureRoad. They prove no statement. -/
import Derived.Test.YteoebfiacnploaaGreatQG19
import Derived.Test.YteoebfiacnploaaGreatQG15
import Derived.Deep.LoopGhost
namespace Go.Proofs.YteoebfiacnploaaGreat.HRec
open Go.RowKit Go.Proofs.YteoebfiacnploaaGreatW.PrintWords Go.Proofs.YteoebfiacnploaaGreatW.PrintLast Go.Proofs.YteoebfiacnploaaGreatW.PrintMore
set_option linter.unusedVariables false
set_option linter.unusedSimpArgs false
def law_table.T8 : Bool × List (List Nat × List Nat) := (true, [([], []), ([], []), ([], []), ([1, 2], [1, 2]), ([3], [3]), ([4], [4]), ([], []), ([], []), ([6, 7], [6, 7]), ([8], [8]), ([0, 5, 9], [0, 5, 9]), ([10, 10, 0, 1, 2, 3, 4, 5, 6, 7, 8, 9, 10], [0, 10])])
def law_table.B8 : List Nat := [0, 0, 0, 6, 14, 30, 0, 0, 192, 448, 1023, 2047]
theorem law_table.tab8 : rtab .any (opsOf Tryz.f16 8) = law_table.T8 := by kernel_rfl
theorem law_table.bits8 : waitsOk law_table.T8.2 law_table.B8 = true := by kernel_rfl
/-- The table behind so many records from one on. -/
def tabTo (rs : List RecT) (ps : List Int) (l : List S36) (f : Nat) : Nat → List S36
  | 0 => l
  | n + 1 => stepT (tabTo rs ps l f n) (rs.getD (f + n) zRec).1 (rs.getD (f + n) zRec).2.1 (ps.getD (f + n) 0)
theorem putS_len (t a : Int) : ∀ l : List S36, (putS l t a).length ≤ l.length + 1
  | [] => Nat.le_refl _
  | x :: r => by
    show (if x.f0 ≥ t then ⟨t, a⟩ :: dropS (x :: r) t else x :: putS r t a).length ≤ _
    by_cases hg : x.f0 ≥ t
    · rw [if_pos hg, List.length_cons]
      have : (dropS (x :: r) t).length ≤ (x :: r).length := List.length_filter_le _ _
      omega
    · rw [if_neg hg, List.length_cons, List.length_cons]
      have := putS_len t a r
      omega
theorem dropS_len (t : Int) (l : List S36) : (dropS l t).length ≤ l.length := List.length_filter_le _ _
set_option maxHeartbeats 16000000 in
set_option maxRecDepth 100000 in
theorem law_table (A0 : Option Addr) (c0 : Nat) (l : List S36) (A1 : Option Addr) (d1 : Nat) (rs : List RecT) (A2 : Option Addr) (d2 : Nat) (ps : List Int) (frm : Int) (w : World) (hC0 : Kd.C k36 w A0 l.length l) (hc0 : l.length ≤ c0) (hQ1 : Kd.C kRec w A1 rs.length rs) (hQ2 : (Kd.int .i64).C w A2 ps.length ps) (hlen : rs.length = ps.length) (hbd : rs.length ≤ 11600) (hl : l.length ≤ 100000) (hf0 : 0 ≤ frm) (hf1 : frm ≤ rs.length) :
    Calls Tryz.prog 16 #[.slice A0 l.length c0, .slice A1 rs.length d1, .slice A2 ps.length d2, .int .i64 frm] w fun e w' => ∃ A c, e = .returned (.slice A (tabTo rs ps l frm.toNat (rs.length - frm.toNat)).length c) ∧ (tabTo rs ps l frm.toNat (rs.length - frm.toNat)).length ≤ c ∧ Kd.C k36 w' A (tabTo rs ps l frm.toNat (rs.length - frm.toNat)).length (tabTo rs ps l frm.toNat (rs.length - frm.toNat)) ∧ Below w.heap.size w w' := by
  have Q1 := Aside0.mk hQ1; have Q2 := Aside0.mk hQ2; have HC0 := Aside0.mk hC0; have HcC := Aside0.mk hc0; have HLN := Aside0.mk (And.intro hlen hbd); have HLL := Aside0.mk hl; have HF := Aside0.mk (And.intro hf0 hf1); clear hC0 hc0 hQ1 hQ2 hlen hbd hl hf0 hf1
  go_enter Tryz.func16, Tryz.ntmps16
  go_wp2_with fail
  go_loopg [0, 9] (rs.length - frm.toNat) (fun kq v0 v9 w' => ∃ (i : Int) (A : Option Addr) (c : Nat) (T : List S36), v9 = .int .i64 i ∧ v0 = .slice A T.length c ∧ Aside0 (frm ≤ i ∧ i.toNat + kq = rs.length) ∧ Aside0 (T = tabTo rs ps l frm.toNat (i.toNat - frm.toNat)) ∧ Aside0 (T.length ≤ c) ∧ Aside0 (Kd.C k36 w' A T.length T) ∧ Aside0 (T.length ≤ l.length + i.toNat) ∧ Aside0 (Below w.heap.size w w'))
  case atStart => exact ⟨frm, A0, c0, l, rfl, rfl, ⟨Int.le_refl _, by have := HF.out; omega⟩, ⟨by rw [Nat.sub_self]; rfl⟩, HcC, HC0, ⟨by omega⟩, ⟨Below.refl _ _⟩⟩
  case round =>
    obtain ⟨i, A, c, T, rfl, rfl, HN, HTE, HTC, HTR, HTL, HB⟩ := hrel
    cases gk with
    | zero =>
      have b0 : decide (i < (rs.length : Int)) = false := decide_eq_false (by have := HN.out; have := HF.out; omega)
      have hn : i.toNat - frm.toNat = rs.length - frm.toNat := by have := HN.out; omega
      go_wp2_with fail
      go_ret
      rw [← hn, ← HTE.out]
      exact ⟨A, c, rfl, HTC.out, HTR.out, HB.out⟩
    | succ k1 =>
      have hi : i < (rs.length : Int) := by have := HN.out; have := HF.out; omega
      have hi2 : i < (ps.length : Int) := by have := HLN.out.1; omega
      have h0 : 0 ≤ i := by have := HN.out; have := HF.out; omega
      have b0 : decide (i < (rs.length : Int)) = true := decide_eq_true hi
      have b02 : decide (i < (ps.length : Int)) = true := decide_eq_true hi2
      have hw : wrap64 (i + 1) = i + 1 := w64 (by omega) (by have := HLN.out.2; omega)
      have hst : tabTo rs ps l frm.toNat ((i + 1).toNat - frm.toNat) = stepT T ((rd_Rec rs i).1) ((rd_Rec rs i).2.1) (rd ps i) := by
        have e1 : (i + 1).toNat - frm.toNat = (i.toNat - frm.toNat) + 1 := by have := HN.out; have := HF.out; omega
        have e2 : frm.toNat + (i.toNat - frm.toNat) = i.toNat := by have := HN.out; have := HF.out; omega
        rw [e1]
        show stepT (tabTo rs ps l frm.toNat (i.toNat - frm.toNat)) (rs.getD (frm.toNat + (i.toNat - frm.toNat)) zRec).1 (rs.getD (frm.toNat + (i.toNat - frm.toNat)) zRec).2.1 (ps.getD (frm.toNat + (i.toNat - frm.toNat)) 0) = _
        rw [e2, ← HTE.out]
        rfl
      obtain ⟨ad, A9, c9, A10, c10, rfl, z0, z1, z2, z3, z4, z5, z6, z7, z8, z9, z10, z11, z12, _⟩ := at_Rec Q1.out i h0 hi
      obtain ⟨ad2, rfl, x0⟩ := Kd.at_int Q2.out i h0 hi2
      have r0 := below_cell HB.out z0; have r1 := below_cell HB.out z1; have r2x := below_cell HB.out x0; clear z2 z3 z4 z5 z6 z7 z8 z9 z10 z11 z12
      by_cases k7 : (rd_Rec rs i).1 = 7 ∨ (rd_Rec rs i).1 = 8
      · have hs : stepT T ((rd_Rec rs i).1) ((rd_Rec rs i).2.1) (rd ps i) = dropS T ((rd_Rec rs i).2.1) := if_pos k7
        rw [hs] at hst
        have b3 : ((rd_Rec rs i).1 == 3) = false := beq_eq_false_iff_ne.mpr (by omega)
        have b4 : ((rd_Rec rs i).1 == 4) = false := beq_eq_false_iff_ne.mpr (by omega)
        have b5 : ((rd_Rec rs i).1 == 5) = false := beq_eq_false_iff_ne.mpr (by omega)
        have b6 : ((rd_Rec rs i).1 == 6) = false := beq_eq_false_iff_ne.mpr (by omega)
        have HD := Aside0.mk (drop_val T ((rd_Rec rs i).2.1) (T.length + 1) (by have := HTL.out; have := HLL.out; have := HLN.out.2; omega) (Nat.le_refl _))
        have fin : ∀ (w3 : World) (A3 : Option Addr) (c3 : Nat), (dropS T ((rd_Rec rs i).2.1)).length = (dropS T ((rd_Rec rs i).2.1)).length ∧ (dropS T ((rd_Rec rs i).2.1)).length ≤ c3 ∧ Kd.C k36 w3 A3 (dropS T ((rd_Rec rs i).2.1)).length (dropS T ((rd_Rec rs i).2.1)) → Below w.heap.size w w3 → True := fun _ _ _ _ _ => trivial
        clear fin
        rcases k7 with k7 | k7
        · have b7 : ((rd_Rec rs i).1 == 7) = true := beq_iff_eq.mpr k7
          clear k7
          go_wp2_with fail
          refine (gharrylaw15_drop.calls (T.length + 1) A c T ((rd_Rec rs i).2.1) (dropS T ((rd_Rec rs i).2.1)) wr HTR.out HTC.out HD.out).mono ?_
          rintro e w3 ⟨v3, rfl, q3, hb3⟩
          obtain ⟨A3, c3, rfl⟩ := Kd.R_slice q3
          have n1_ := Aside0.mk (Kd.R_reads' q3)
          have n2_ := Aside0.mk (below_step HB.out hb3); clear q3 hb3 r0 r1 r2x
          go_wp2_with fail
          go_roundg k1
          case measure => omega
          case rel => exact ⟨i + 1, A3, c3, dropS T ((rd_Rec rs i).2.1), by first | rfl | rw [hw], rfl, ⟨by have := HN.out; omega, by have := HN.out; omega⟩, ⟨hst.symm⟩, ⟨n1_.out.2.1⟩, ⟨n1_.out.2.2⟩, ⟨by have := HTL.out; have := dropS_len ((rd_Rec rs i).2.1) T; omega⟩, n2_⟩
        · have b8 : ((rd_Rec rs i).1 == 8) = true := beq_iff_eq.mpr k7
          have b7 : ((rd_Rec rs i).1 == 7) = false := beq_eq_false_iff_ne.mpr (by omega)
          clear k7
          go_wp2_with fail
          refine (gharrylaw15_drop.calls (T.length + 1) A c T ((rd_Rec rs i).2.1) (dropS T ((rd_Rec rs i).2.1)) wr HTR.out HTC.out HD.out).mono ?_
          rintro e w3 ⟨v3, rfl, q3, hb3⟩
          obtain ⟨A3, c3, rfl⟩ := Kd.R_slice q3
          have n1_ := Aside0.mk (Kd.R_reads' q3)
          have n2_ := Aside0.mk (below_step HB.out hb3); clear q3 hb3 r0 r1 r2x
          go_wp2_with fail
          go_roundg k1
          case measure => omega
          case rel => exact ⟨i + 1, A3, c3, dropS T ((rd_Rec rs i).2.1), by first | rfl | rw [hw], rfl, ⟨by have := HN.out; omega, by have := HN.out; omega⟩, ⟨hst.symm⟩, ⟨n1_.out.2.1⟩, ⟨n1_.out.2.2⟩, ⟨by have := HTL.out; have := dropS_len ((rd_Rec rs i).2.1) T; omega⟩, n2_⟩
      · by_cases k3 : (rd_Rec rs i).1 = 3 ∨ (rd_Rec rs i).1 = 4 ∨ (rd_Rec rs i).1 = 5 ∨ (rd_Rec rs i).1 = 6
        · have hs : stepT T ((rd_Rec rs i).1) ((rd_Rec rs i).2.1) (rd ps i) = putS T ((rd_Rec rs i).2.1) (rd ps i) := (if_neg k7).trans (if_pos k3)
          rw [hs] at hst
          have b7 : ((rd_Rec rs i).1 == 7) = false := beq_eq_false_iff_ne.mpr (by omega)
          have b8 : ((rd_Rec rs i).1 == 8) = false := beq_eq_false_iff_ne.mpr (by omega)
          have HPV := Aside0.mk (put_val36 T ((rd_Rec rs i).2.1) (rd ps i) (2 * T.length + 2) (by have := HTL.out; have := HLL.out; have := HLN.out.2; omega) (Nat.le_refl _))
          clear k7
          rcases k3 with k3 | k3 | k3 | k3
          all_goals
            first | (have b3 : ((rd_Rec rs i).1 == 3) = true := by rw [k3]; rfl) | (have b3 : ((rd_Rec rs i).1 == 3) = false := by rw [k3]; rfl)
            first | (have b4 : ((rd_Rec rs i).1 == 4) = true := by rw [k3]; rfl) | (have b4 : ((rd_Rec rs i).1 == 4) = false := by rw [k3]; rfl)
            first | (have b5 : ((rd_Rec rs i).1 == 5) = true := by rw [k3]; rfl) | (have b5 : ((rd_Rec rs i).1 == 5) = false := by rw [k3]; rfl)
            first | (have b6 : ((rd_Rec rs i).1 == 6) = true := by rw [k3]; rfl) | (have b6 : ((rd_Rec rs i).1 == 6) = false := by rw [k3]; rfl)
            clear k3
            go_wp2_with fail
            refine start_ (n := 12) (S := fun w' => Below wr.drew.heap.size wr.drew w') (ds := []) #[false, false, false, false, false, false, false, false, false, false, false, false] (by kernel_rfl) rfl rfl (Below.refl _ _) (fun hHeld => ?_); refine with_tabW law_table.tab8 law_table.bits8 (fun HT_ HW_ => ?_)
            have m1_ := Aside0.mk (Kd.C_drew HTR.out); have m2_ := Aside0.mk (below_drew HB.out)
            have f1_ : Aside0 (wr.drew.cell? ⟨(ad.add (i.toNat * 13)).block, (ad.add (i.toNat * 13)).off + 1, none⟩ = some (.int .i64 (rd_Rec rs i).2.1)) := ⟨below_cell m2_.out z1⟩
            have f2_ : Aside0 (wr.drew.cell? (ad2.add i.toNat) = some (.int .i64 (rd ps i))) := ⟨below_cell m2_.out x0⟩
            clear r0 r1 r2x
            generalize wr.drew = W0 at m1_ m2_ f1_ f2_ hHeld ⊢
            refine pure_ (i := 0) (N := some 56) (v := ?_) (a' := ?_) #[true, false, false, false, false, false, false, false, false, false, false, false] rfl rfl (any_of HT_.out (by kernel_rfl)) (fun _ _ _ h => h) (Or.inl ⟨by rfl, ?_⟩) ?_ ?_
            rotate_left
            · intro w'
              go_simp
              with_reducible rfl
            rotate_left
            · simp only [Act.put, List.setIfInBounds_toArray, List.set_cons_zero, List.set_cons_succ, i64_w, i32_w]
              rfl
            refine pure_ (i := 1) (N := some 57) (v := ?_) (a' := ?_) #[true, true, false, false, false, false, false, false, false, false, false, false] rfl rfl (any_of HT_.out (by kernel_rfl)) (fun _ _ _ h => h) (Or.inl ⟨by rfl, ?_⟩) ?_ ?_
            rotate_left
            · intro w'
              go_simp
              with_reducible rfl
            rotate_left
            · simp only [Act.put, List.setIfInBounds_toArray, List.set_cons_zero, List.set_cons_succ, i64_w, i32_w]
              rfl
            refine pure_ (i := 2) (N := some 58) (v := ?_) (a' := ?_) #[true, true, true, false, false, false, false, false, false, false, false, false] rfl rfl (any_of HT_.out (by kernel_rfl)) (fun _ _ _ h => h) (Or.inl ⟨by rfl, ?_⟩) ?_ ?_
            rotate_left
            · intro w'
              go_simp
              with_reducible rfl
            rotate_left
            · simp only [Act.put, List.setIfInBounds_toArray, List.set_cons_zero, List.set_cons_succ, i64_w, i32_w]
              rfl
            refine pure_ (i := 3) (N := some 59) (v := ?_) (a' := ?_) #[true, true, true, true, false, false, false, false, false, false, false, false] rfl rfl (any_of HT_.out (by kernel_rfl)) (fun _ _ _ h => h) (Or.inl ⟨by rfl, ?_⟩) ?_ ?_
            rotate_left
            · intro w'
              go_simp
              with_reducible rfl
            rotate_left
            · simp only [Act.put, List.setIfInBounds_toArray, List.set_cons_zero, List.set_cons_succ, i64_w, i32_w]
              rfl
            refine pure_ (i := 4) (N := some 60) (v := ?_) (a' := ?_) #[true, true, true, true, true, false, false, false, false, false, false, false] rfl rfl (any_of HT_.out (by kernel_rfl)) (fun _ _ _ h => h) (Or.inl ⟨by rfl, ?_⟩) ?_ ?_
            rotate_left
            · intro w'
              go_simp
              with_reducible rfl
            rotate_left
            · simp only [Act.put, List.setIfInBounds_toArray, List.set_cons_zero, List.set_cons_succ, i64_w, i32_w]
              rfl
            refine take_ (i := 5) (N := some 61) (v := ?_) (a' := ?_) #[true, true, true, true, true, true, false, false, false, false, false, false] rfl rfl (take_ofW HT_.out HW_.out (by kernel_rfl)) (fun _ _ _ h => h) (Or.inl ⟨by rfl, ?_⟩) hHeld ?_ ?_
            rotate_left
            · intro w' hs
              have s1 := below_cell hs f1_.out; have s2 := below_cell hs f2_.out
              go_simp
              with_reducible rfl
            rotate_left
            · simp only [Act.put, List.setIfInBounds_toArray, List.set_cons_zero, List.set_cons_succ, i64_w, i32_w]
              rfl
            refine pure_ (i := 6) (N := some 62) (v := ?_) (a' := ?_) #[true, true, true, true, true, true, true, false, false, false, false, false] rfl rfl (any_of HT_.out (by kernel_rfl)) (fun _ _ _ h => h) (Or.inl ⟨by rfl, ?_⟩) ?_ ?_
            rotate_left
            · intro w'
              go_simp
              with_reducible rfl
            rotate_left
            · simp only [Act.put, List.setIfInBounds_toArray, List.set_cons_zero, List.set_cons_succ, i64_w, i32_w]
              rfl
            refine pure_ (i := 7) (N := some 63) (v := ?_) (a' := ?_) #[true, true, true, true, true, true, true, true, false, false, false, false] rfl rfl (any_of HT_.out (by kernel_rfl)) (fun _ _ _ h => h) (Or.inl ⟨by rfl, ?_⟩) ?_ ?_
            rotate_left
            · intro w'
              go_simp
              with_reducible rfl
            rotate_left
            · simp only [Act.put, List.setIfInBounds_toArray, List.set_cons_zero, List.set_cons_succ, i64_w, i32_w]
              rfl
            refine pure_ (i := 8) (N := some 64) (v := ?_) (a' := ?_) #[true, true, true, true, true, true, true, true, true, false, false, false] rfl rfl (any_of HT_.out (by kernel_rfl)) (fun _ _ _ h => h) (Or.inl ⟨by rfl, ?_⟩) ?_ ?_
            rotate_left
            · intro w'
              go_simp
              with_reducible rfl
            rotate_left
            · simp only [Act.put, List.setIfInBounds_toArray, List.set_cons_zero, List.set_cons_succ, i64_w, i32_w]
              rfl
            refine take_ (i := 9) (N := some 65) (v := ?_) (a' := ?_) #[true, true, true, true, true, true, true, true, true, true, false, false] rfl rfl (take_ofW HT_.out HW_.out (by kernel_rfl)) (fun _ _ _ h => h) (Or.inl ⟨by rfl, ?_⟩) hHeld ?_ ?_
            rotate_left
            · intro w' hs
              have s1 := below_cell hs f1_.out; have s2 := below_cell hs f2_.out
              go_simp
              with_reducible rfl
            rotate_left
            · simp only [Act.put, List.setIfInBounds_toArray, List.set_cons_zero, List.set_cons_succ, i64_w, i32_w]
              rfl
            refine one_ (i := 10) (N := some 66) #[true, true, true, true, true, true, true, true, true, true, true, false] rfl rfl (one_of HT_.out (by kernel_rfl)) (by decide) (fun K hK => ?_)
            refine goes_ Tryz.func17 (by kernel_rfl) rfl #[.slice A T.length c, .int .i64 (rd_Rec rs i).2.1, .int .i64 (rd ps i)] (by rfl) rfl rfl (by (try simp only [List.map_toArray, List.map_cons, List.map_nil]); rfl) ?_
            refine (gharrylaw15_put.calls (2 * T.length + 2) A c T ((rd_Rec rs i).2.1) (rd ps i) (putS T ((rd_Rec rs i).2.1) (rd ps i)) W0 m1_.out HTC.out HPV.out).mono ?_
            rintro e w3 ⟨v3, rfl, q3, hb3⟩
            obtain ⟨A3, c3, rfl⟩ := Kd.R_slice q3
            refine ⟨_, rfl, ?_⟩
            refine hK.out _ _ hb3 (fun hHeld2 => ?_)
            clear hK K
            have n1_ := Aside0.mk (Kd.R_reads' q3)
            have n2_ := Aside0.mk (below_step m2_.out hb3); clear q3 hb3 hHeld hHeld2
            refine norm_ (a' := ?_) ?_ ?_
            rotate_left
            · simp only [Act.put, List.setIfInBounds_toArray, List.set_cons_zero, List.set_cons_succ]
              rfl
            refine pure_ (i := 11) (N := some 0) (v := ?_) (a' := ?_) #[true, true, true, true, true, true, true, true, true, true, true, true] rfl rfl (any_of HT_.out (by kernel_rfl)) (fun _ _ _ h => h) (Or.inl ⟨by rfl, ?_⟩) ?_ ?_
            rotate_left
            · intro w'
              go_simp
              with_reducible rfl
            rotate_left
            · simp only [Act.put, List.setIfInBounds_toArray, List.set_cons_zero, List.set_cons_succ, i64_w, i32_w]
              rfl
            refine done_ (done_of HT_.out (by kernel_rfl)) ?_
            go_wp2_with fail
            go_roundg k1
            case measure => omega
            case rel => exact ⟨i + 1, A3, c3, putS T ((rd_Rec rs i).2.1) (rd ps i), by first | rfl | rw [hw], rfl, ⟨by have := HN.out; omega, by have := HN.out; omega⟩, ⟨hst.symm⟩, ⟨n1_.out.2.1⟩, ⟨n1_.out.2.2⟩, ⟨by have := HTL.out; have := putS_len ((rd_Rec rs i).2.1) (rd ps i) T; omega⟩, n2_⟩
        · have hs : stepT T ((rd_Rec rs i).1) ((rd_Rec rs i).2.1) (rd ps i) = T := (if_neg k7).trans (if_neg k3)
          rw [hs] at hst
          have b7 : ((rd_Rec rs i).1 == 7) = false := beq_eq_false_iff_ne.mpr (by omega)
          have b8 : ((rd_Rec rs i).1 == 8) = false := beq_eq_false_iff_ne.mpr (by omega)
          have b3 : ((rd_Rec rs i).1 == 3) = false := beq_eq_false_iff_ne.mpr (by omega)
          have b4 : ((rd_Rec rs i).1 == 4) = false := beq_eq_false_iff_ne.mpr (by omega)
          have b5 : ((rd_Rec rs i).1 == 5) = false := beq_eq_false_iff_ne.mpr (by omega)
          have b6 : ((rd_Rec rs i).1 == 6) = false := beq_eq_false_iff_ne.mpr (by omega)
          clear k7 k3
          go_wp2_with fail
          go_roundg k1
          case measure => omega
          case rel => exact ⟨i + 1, A, c, T, by first | rfl | rw [hw], rfl, ⟨by have := HN.out; omega, by have := HN.out; omega⟩, ⟨hst.symm⟩, HTC, HTR, ⟨by have := HTL.out; omega⟩, HB⟩
end Go.Proofs.YteoebfiacnploaaGreat.HRec
namespace Go.Proofs.YteoebfiacnploaaGreat.HRec
open Go.RowKit Go.Proofs.YteoebfiacnploaaGreatW.PrintWords Go.Proofs.YteoebfiacnploaaGreatW.PrintLast Go.Proofs.YteoebfiacnploaaGreatW.PrintMore
set_option linter.unusedVariables false
set_option linter.unusedSimpArgs false
/-- The table behind the records from a place on, and whether all could be read. -/
def eachT : Nat → ByteArray → List S36 → Int → Option (List S36 × Int)
  | 0, _, _, _ => none
  | k + 1, all, l, lsn => if lsn < (all.size : Int) + 1 then (readF 5 all lsn).bind fun r => if r.2.2.2.2.2.2.2.2.2.2.2.2.2.2 = 0 then eachT k all (stepT l r.1 r.2.1 lsn) r.2.2.2.2.2.2.2.2.2.2.2.2.2.1 else some (l, 20) else some (l, 0)
theorem eachT_tot (all : ByteArray) (hs : all.size ≤ 11600) : ∀ (n k : Nat) (l : List S36) (lsn : Int), 1 ≤ lsn → (all.size + 1 - lsn).toNat ≤ n → n + 1 ≤ k → ∃ r, eachT k all l lsn = some r
  | n, 0, _, _, _, _, hk => absurd hk (by omega)
  | n, k + 1, l, lsn, h1, hn, hk => by
    rw [eachT]
    by_cases hc : lsn < (all.size : Int) + 1
    · rw [if_pos hc]
      obtain ⟨r, hr, hz⟩ := read_tot all lsn hs h1
      rw [hr, Option.bind_some]
      by_cases he : r.2.2.2.2.2.2.2.2.2.2.2.2.2.2 = 0
      · rw [if_pos he]
        obtain ⟨z1, z2⟩ := hz he
        exact eachT_tot all hs (n - 1) k _ _ (by omega) (by omega) (by omega)
      · rw [if_neg he]; exact ⟨_, rfl⟩
    · rw [if_neg hc]; exact ⟨_, rfl⟩
theorem eachT_mono (all : ByteArray) : ∀ (k m : Nat) (l : List S36) (lsn : Int) (r : List S36 × Int), eachT k all l lsn = some r → eachT (k + m) all l lsn = some r
  | 0, m, l, lsn, r, h => absurd h (by simp [eachT])
  | k + 1, m, l, lsn, r, h => by
    rw [show k + 1 + m = (k + m) + 1 by omega]
    rw [eachT] at h ⊢
    by_cases hc : lsn < (all.size : Int) + 1
    · rw [if_pos hc] at h ⊢
      obtain ⟨q, hq, h⟩ := Option.bind_eq_some_iff.mp h
      rw [hq, Option.bind_some]
      by_cases he : q.2.2.2.2.2.2.2.2.2.2.2.2.2.2 = 0
      · rw [if_pos he] at h ⊢
        exact eachT_mono all k m _ _ r h
      · rw [if_neg he] at h ⊢; exact h
    · rw [if_neg hc] at h ⊢; exact h
theorem eachT_one {all : ByteArray} {k k' : Nat} {l : List S36} {lsn : Int} {a b : List S36 × Int} (h1 : eachT k all l lsn = some a) (h2 : eachT k' all l lsn = some b) : a = b := by
  have g1 := eachT_mono all k k' l lsn a h1
  have g2 := eachT_mono all k' k l lsn b h2
  rw [Nat.add_comm] at g2
  rw [g1] at g2
  exact Option.some.inj g2
/-- A table that can be sorted: its transactions rise, and are in their bounds. -/
def GoodT (l : List S36) : Prop := Rising l ∧ ∀ x ∈ l, 0 ≤ x.f0 ∧ x.f0 < 281474976710656
theorem GoodT.nil : GoodT [] := ⟨List.Pairwise.nil, fun x hx => absurd hx (List.not_mem_nil)⟩
theorem GoodT.put {l : List S36} (h : GoodT l) {t : Int} (a : Int) (h0 : 0 ≤ t) (h1 : t < 281474976710656) : GoodT (putS l t a) :=
  ⟨rising_put t a l h.1, fun x hx => by
    rcases putS_mem t a l x hx with rfl | hm
    · exact ⟨h0, h1⟩
    · exact h.2 x hm⟩
theorem GoodT.drop {l : List S36} (h : GoodT l) (t : Int) : GoodT (dropS l t) := ⟨rising_drop h.1 t, fun x hx => h.2 x (List.mem_filter.mp hx).1⟩
theorem GoodT.step {l : List S36} (h : GoodT l) (x0 x1 a : Int) (hb : (x0 = 3 ∨ x0 = 4 ∨ x0 = 5 ∨ x0 = 6 ∨ x0 = 7 ∨ x0 = 8) → 0 ≤ x1 ∧ x1 < 281474976710656) : GoodT (stepT l x0 x1 a) := by
  unfold stepT
  by_cases h1 : x0 = 7 ∨ x0 = 8
  · rw [if_pos h1]; exact h.drop x1
  · rw [if_neg h1]
    by_cases h2 : x0 = 3 ∨ x0 = 4 ∨ x0 = 5 ∨ x0 = 6
    · rw [if_pos h2]
      obtain ⟨b1, b2⟩ := hb (by omega)
      exact h.put a b1 b2
    · rw [if_neg h2]; exact h
theorem step_len (l : List S36) (x0 x1 a : Int) : (stepT l x0 x1 a).length ≤ l.length + 1 := by
  unfold stepT
  by_cases h1 : x0 = 7 ∨ x0 = 8
  · rw [if_pos h1]; exact Nat.le_trans (dropS_len x1 l) (Nat.le_succ _)
  · rw [if_neg h1]
    by_cases h2 : x0 = 3 ∨ x0 = 4 ∨ x0 = 5 ∨ x0 = 6
    · rw [if_pos h2]; exact putS_len x1 a l
    · rw [if_neg h2]; exact Nat.le_succ _
end Go.Proofs.YteoebfiacnploaaGreat.HRec
