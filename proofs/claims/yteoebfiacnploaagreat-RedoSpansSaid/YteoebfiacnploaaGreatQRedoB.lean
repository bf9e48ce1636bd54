/- Contracts of redo.Spans and redo.Commits. They prove no statement. -/
import Derived.Test.YteoebfiacnploaaGreatQRedoA
namespace Go.Proofs.YteoebfiacnploaaGreat.HRec
open Go.RowKit Go.Proofs.YteoebfiacnploaaGreatW.PrintWords Go.Proofs.YteoebfiacnploaaGreatW.PrintLast Go.Proofs.YteoebfiacnploaaGreatW.PrintMore
set_option linter.unusedVariables false
set_option linter.unusedSimpArgs false
/-- The epochs of so many records, and where they begin. -/
def spansTo (rs : List RecT) (ps : List Int) : Nat → List S34
  | 0 => []
  | n + 1 => if (rs.getD n zRec).1 = 10 then spansTo rs ps n ++ [⟨(rs.getD n zRec).2.2.2.2.2.2.2.2.2.2.2.1, ps.getD n 0⟩] else spansTo rs ps n
theorem redo_Spans_len (rs : List RecT) (ps : List Int) : ∀ n, (spansTo rs ps n).length ≤ n
  | 0 => Nat.le_refl _
  | n + 1 => by
    have := redo_Spans_len rs ps n
    unfold spansTo
    split
    · simp; omega
    · omega
/-- The commits of so many records ahead of a place, and where they are. -/
def commTo (rs : List RecT) (ps : List Int) (en : Int) : Nat → List S36
  | 0 => []
  | n + 1 => if (rs.getD n zRec).1 = 7 ∧ ps.getD n 0 < en then commTo rs ps en n ++ [⟨(rs.getD n zRec).2.1, ps.getD n 0⟩] else commTo rs ps en n
theorem redo_Commits_len (rs : List RecT) (ps : List Int) (en : Int) : ∀ n, (commTo rs ps en n).length ≤ n
  | 0 => Nat.le_refl _
  | n + 1 => by
    have := redo_Commits_len rs ps en n
    unfold commTo
    split
    · simp; omega
    · omega
def redo_Spans.T7 : Bool × List (List Nat × List Nat) := (true, [([], []), ([], []), ([1], [1]), ([], []), ([], []), ([3, 4], [3, 4]), ([5], [5]), ([2, 6], [2, 6]), ([7], [7]), ([0, 8], [0, 8]), ([9, 9, 0, 1, 2, 3, 4, 5, 6, 7, 8, 9], [0, 9])])
def redo_Spans.B7 : List Nat := [0, 0, 2, 0, 0, 24, 56, 126, 254, 511, 1023]
theorem redo_Spans.tab7 : rtab .any (opsOf Tryz.f8 7) = redo_Spans.T7 := by kernel_rfl
theorem redo_Spans.bits7 : waitsOk redo_Spans.T7.2 redo_Spans.B7 = true := by kernel_rfl
set_option maxHeartbeats 8000000 in
set_option maxRecDepth 100000 in
theorem redo_Spans (L d : Nat) (base sectors run : Int) (all : ByteArray) (dur : Int) (w : World) (hL : IsLog w L d base sectors run all dur) (hs : all.size ≤ 11600) :
    Calls Tryz.prog 8 #[.pointer (some ⟨L, 0, none⟩)] w fun e w' => ∃ v, e = .returned v ∧ Kd.R k34 34 w' w.heap.size (fun _ => True) v (spansTo (recsF all).1 (recsF all).2 (recsF all).1.length) ∧ Below w.heap.size w w' := by
  have HR := Aside0.mk (log_Records L d base sectors run all dur w hL hs); have HLN := Aside0.mk (recsF_len all hs)
  generalize recsF all = RP at *
  obtain ⟨rs, ps⟩ := RP
  dsimp only at HR HLN ⊢
  have hu32 := Tryz.underlying32; have HB := Aside0.mk (Below.refl w.heap.size w); clear hL hs
  go_enter Tryz.func8, Tryz.ntmps8
  go_wp2_with fail
  refine HR.out.mono ?_
  rintro e w1 ⟨v1, v2, rfl, q1, q2, hb⟩
  obtain ⟨A1, d1, rfl⟩ := Kd.R_slice q1
  obtain ⟨A2, d2, rfl⟩ := Kd.R_slice q2
  have Q1 := Aside0.mk q1; have Q2 := Aside0.mk q2; have HB1 := Aside0.mk hb; clear q1 q2 hb HR HB
  go_wp2_with fail
  go_loopg [3, 15] (rs.length) (fun kq vo vi w' => ∃ i : Int, vi = .int .i64 i ∧ Aside0 (0 ≤ i ∧ i.toNat + kq = rs.length) ∧ Aside0 (Kd.R k34 34 w' w.heap.size (fun _ => True) vo (spansTo rs ps i.toNat)) ∧ Aside0 (Kd.R kRec 32 w' w.heap.size (fun _ => True) (.slice A1 rs.length d1) rs) ∧ Aside0 (Kd.R (Kd.int .i64) 3 w' w.heap.size (fun _ => True) (.slice A2 ps.length d2) ps) ∧ Aside0 (Below w.heap.size w w'))
  case atStart => exact ⟨0, rfl, ⟨by omega, by simp⟩, ⟨Kd.R_nil _ _ _ _ _⟩, Q1, Q2, HB1⟩
  case round =>
    obtain ⟨i, rfl, HN, HO, HR1, HR2, HB⟩ := hrel
    cases gk with
    | zero =>
      have b0 : decide (i < (rs.length : Int)) = false := decide_eq_false (by have := HN.out; omega)
      have hn : i.toNat = rs.length := by have := HN.out; omega
      go_wp2_with fail
      go_ret
      exact ⟨_, rfl, by rw [← hn]; exact Kd.R_mono HO.out (fun _ _ => trivial), HB.out⟩
    | succ k1 =>
      have hi : i < (rs.length : Int) := by have := HN.out; omega
      have h0 : 0 ≤ i := HN.out.1
      have b0 : decide (i < (rs.length : Int)) = true := decide_eq_true hi
      have hw : wrap64 (i + 1) = i + 1 := w64 (by omega) (by have := HLN.out.2; omega)
      have hnx : (i + 1).toNat = i.toNat + 1 := by omega
      obtain ⟨ad, A9, c9, A10, c10, rfl, z0, z1, z2, z3, z4, z5, z6, z7, z8, z9, z10, z11, z12, _⟩ := at_Rec (Kd.R_reads' HR1.out).2.2 i h0 hi
      obtain ⟨ad2, rfl, x0⟩ := Kd.at_int (Kd.R_reads' HR2.out).2.2 i h0 (by have := HLN.out.1; omega)
      have hi2 : i < (ps.length : Int) := by have := HLN.out.1; omega
      have HBW := Aside0.mk (below_alloc HB.out (.cells #[.int .i64 (rd_Rec rs i).1, .int .i64 (rd_Rec rs i).2.1, .int .i64 (rd_Rec rs i).2.2.1, .int .i64 (rd_Rec rs i).2.2.2.1, .int .i64 (rd_Rec rs i).2.2.2.2.1, .string (rd_Rec rs i).2.2.2.2.2.1, .string (rd_Rec rs i).2.2.2.2.2.2.1, .string (rd_Rec rs i).2.2.2.2.2.2.2.1, .int .i64 (rd_Rec rs i).2.2.2.2.2.2.2.2.1, .slice A9 (rd_Rec rs i).2.2.2.2.2.2.2.2.2.1.length c9, .slice A10 (rd_Rec rs i).2.2.2.2.2.2.2.2.2.2.1.length c10, .int .i64 (rd_Rec rs i).2.2.2.2.2.2.2.2.2.2.2.1, .int .i64 (rd_Rec rs i).2.2.2.2.2.2.2.2.2.2.2.2] 32))
      have hO := Kd.R_alloc HO.out (.cells #[.int .i64 (rd_Rec rs i).1, .int .i64 (rd_Rec rs i).2.1, .int .i64 (rd_Rec rs i).2.2.1, .int .i64 (rd_Rec rs i).2.2.2.1, .int .i64 (rd_Rec rs i).2.2.2.2.1, .string (rd_Rec rs i).2.2.2.2.2.1, .string (rd_Rec rs i).2.2.2.2.2.2.1, .string (rd_Rec rs i).2.2.2.2.2.2.2.1, .int .i64 (rd_Rec rs i).2.2.2.2.2.2.2.2.1, .slice A9 (rd_Rec rs i).2.2.2.2.2.2.2.2.2.1.length c9, .slice A10 (rd_Rec rs i).2.2.2.2.2.2.2.2.2.2.1.length c10, .int .i64 (rd_Rec rs i).2.2.2.2.2.2.2.2.2.2.2.1, .int .i64 (rd_Rec rs i).2.2.2.2.2.2.2.2.2.2.2.2] 32)
      have hR1 := Kd.R_alloc HR1.out (.cells #[.int .i64 (rd_Rec rs i).1, .int .i64 (rd_Rec rs i).2.1, .int .i64 (rd_Rec rs i).2.2.1, .int .i64 (rd_Rec rs i).2.2.2.1, .int .i64 (rd_Rec rs i).2.2.2.2.1, .string (rd_Rec rs i).2.2.2.2.2.1, .string (rd_Rec rs i).2.2.2.2.2.2.1, .string (rd_Rec rs i).2.2.2.2.2.2.2.1, .int .i64 (rd_Rec rs i).2.2.2.2.2.2.2.2.1, .slice A9 (rd_Rec rs i).2.2.2.2.2.2.2.2.2.1.length c9, .slice A10 (rd_Rec rs i).2.2.2.2.2.2.2.2.2.2.1.length c10, .int .i64 (rd_Rec rs i).2.2.2.2.2.2.2.2.2.2.2.1, .int .i64 (rd_Rec rs i).2.2.2.2.2.2.2.2.2.2.2.2] 32)
      have hR2 := Kd.R_alloc HR2.out (.cells #[.int .i64 (rd_Rec rs i).1, .int .i64 (rd_Rec rs i).2.1, .int .i64 (rd_Rec rs i).2.2.1, .int .i64 (rd_Rec rs i).2.2.2.1, .int .i64 (rd_Rec rs i).2.2.2.2.1, .string (rd_Rec rs i).2.2.2.2.2.1, .string (rd_Rec rs i).2.2.2.2.2.2.1, .string (rd_Rec rs i).2.2.2.2.2.2.2.1, .int .i64 (rd_Rec rs i).2.2.2.2.2.2.2.2.1, .slice A9 (rd_Rec rs i).2.2.2.2.2.2.2.2.2.1.length c9, .slice A10 (rd_Rec rs i).2.2.2.2.2.2.2.2.2.2.1.length c10, .int .i64 (rd_Rec rs i).2.2.2.2.2.2.2.2.2.2.2.1, .int .i64 (rd_Rec rs i).2.2.2.2.2.2.2.2.2.2.2.2] 32)
      have x1 := below_cell (below_alloc (Below.refl _ _) (.cells #[.int .i64 (rd_Rec rs i).1, .int .i64 (rd_Rec rs i).2.1, .int .i64 (rd_Rec rs i).2.2.1, .int .i64 (rd_Rec rs i).2.2.2.1, .int .i64 (rd_Rec rs i).2.2.2.2.1, .string (rd_Rec rs i).2.2.2.2.2.1, .string (rd_Rec rs i).2.2.2.2.2.2.1, .string (rd_Rec rs i).2.2.2.2.2.2.2.1, .int .i64 (rd_Rec rs i).2.2.2.2.2.2.2.2.1, .slice A9 (rd_Rec rs i).2.2.2.2.2.2.2.2.2.1.length c9, .slice A10 (rd_Rec rs i).2.2.2.2.2.2.2.2.2.2.1.length c10, .int .i64 (rd_Rec rs i).2.2.2.2.2.2.2.2.2.2.2.1, .int .i64 (rd_Rec rs i).2.2.2.2.2.2.2.2.2.2.2.2] 32)) x0
      have y1 : (wr.alloc (.cells #[.int .i64 (rd_Rec rs i).1, .int .i64 (rd_Rec rs i).2.1, .int .i64 (rd_Rec rs i).2.2.1, .int .i64 (rd_Rec rs i).2.2.2.1, .int .i64 (rd_Rec rs i).2.2.2.2.1, .string (rd_Rec rs i).2.2.2.2.2.1, .string (rd_Rec rs i).2.2.2.2.2.2.1, .string (rd_Rec rs i).2.2.2.2.2.2.2.1, .int .i64 (rd_Rec rs i).2.2.2.2.2.2.2.2.1, .slice A9 (rd_Rec rs i).2.2.2.2.2.2.2.2.2.1.length c9, .slice A10 (rd_Rec rs i).2.2.2.2.2.2.2.2.2.2.1.length c10, .int .i64 (rd_Rec rs i).2.2.2.2.2.2.2.2.2.2.2.1, .int .i64 (rd_Rec rs i).2.2.2.2.2.2.2.2.2.2.2.2] 32)).cell? ⟨wr.heap.size, 11, none⟩ = some (.int .i64 (rd_Rec rs i).2.2.2.2.2.2.2.2.2.2.2.1) := (blk_cell (blk_new wr (.cells #[.int .i64 (rd_Rec rs i).1, .int .i64 (rd_Rec rs i).2.1, .int .i64 (rd_Rec rs i).2.2.1, .int .i64 (rd_Rec rs i).2.2.2.1, .int .i64 (rd_Rec rs i).2.2.2.2.1, .string (rd_Rec rs i).2.2.2.2.2.1, .string (rd_Rec rs i).2.2.2.2.2.2.1, .string (rd_Rec rs i).2.2.2.2.2.2.2.1, .int .i64 (rd_Rec rs i).2.2.2.2.2.2.2.2.1, .slice A9 (rd_Rec rs i).2.2.2.2.2.2.2.2.2.1.length c9, .slice A10 (rd_Rec rs i).2.2.2.2.2.2.2.2.2.2.1.length c10, .int .i64 (rd_Rec rs i).2.2.2.2.2.2.2.2.2.2.2.1, .int .i64 (rd_Rec rs i).2.2.2.2.2.2.2.2.2.2.2.2] 32)) 11).trans rfl
      by_cases he : (rd_Rec rs i).1 = 10
      · have b1 : ((rd_Rec rs i).1 == 10) = true := beq_iff_eq.mpr he
        have hst : spansTo rs ps (i.toNat + 1) = spansTo rs ps i.toNat ++ [⟨(rd_Rec rs i).2.2.2.2.2.2.2.2.2.2.2.1, rd ps i⟩] := if_pos he
        clear he
        go_wp2_with fail
        have HO := Aside0.mk hO; have HR1 := Aside0.mk hR1; have HR2 := Aside0.mk hR2; have F1 := Aside0.mk y1; have F2 := Aside0.mk x1; clear hO hR1 hR2 y1 x1 x0 z0 z1 z2 z3 z4 z5 z6 z7 z8 z9 z10 z11 z12
        generalize wr.alloc (.cells #[.int .i64 (rd_Rec rs i).1, .int .i64 (rd_Rec rs i).2.1, .int .i64 (rd_Rec rs i).2.2.1, .int .i64 (rd_Rec rs i).2.2.2.1, .int .i64 (rd_Rec rs i).2.2.2.2.1, .string (rd_Rec rs i).2.2.2.2.2.1, .string (rd_Rec rs i).2.2.2.2.2.2.1, .string (rd_Rec rs i).2.2.2.2.2.2.2.1, .int .i64 (rd_Rec rs i).2.2.2.2.2.2.2.2.1, .slice A9 (rd_Rec rs i).2.2.2.2.2.2.2.2.2.1.length c9, .slice A10 (rd_Rec rs i).2.2.2.2.2.2.2.2.2.2.1.length c10, .int .i64 (rd_Rec rs i).2.2.2.2.2.2.2.2.2.2.2.1, .int .i64 (rd_Rec rs i).2.2.2.2.2.2.2.2.2.2.2.2] 32) = W at HO HR1 HR2 HBW F1 F2 ⊢
        generalize wr.heap.size = g at F1 ⊢
        refine start_ (n := 11) (S := fun w' => Below W.drew.heap.size W.drew w') (ds := [9]) #[false, false, false, false, false, false, false, false, false, false, false] (by kernel_rfl) rfl rfl (Below.refl _ _) (fun hHeld => ?_); refine with_tabW redo_Spans.tab7 redo_Spans.bits7 (fun HT_ HW_ => ?_)
        have m1_ := Aside0.mk (Kd.R_drew HR1.out); have m2_ := Aside0.mk (Kd.R_drew HR2.out); have m3_ := Aside0.mk (Kd.R_drew HO.out); have m4_ := Aside0.mk (below_drew HBW.out)
        have m5_ := Aside0.mk (show (spansTo rs ps i.toNat).length ≤ 11600 by have := redo_Spans_len rs ps i.toNat; have := HLN.out.2; omega)
        have f1_ : Aside0 (W.drew.cell? ⟨g, 11, none⟩ = some (.int .i64 (rd_Rec rs i).2.2.2.2.2.2.2.2.2.2.2.1)) := ⟨F1.out⟩
        have f2_ : Aside0 (W.drew.cell? (ad2.add i.toNat) = some (.int .i64 (rd ps i))) := ⟨F2.out⟩
        clear HR1 HR2 HO HBW F1 F2
        generalize W.drew = W0 at m1_ m2_ m3_ m4_ f1_ f2_ hHeld ⊢
        refine pure_ (i := 0) (N := some 23) (v := ?_) (a' := ?_) #[true, false, false, false, false, false, false, false, false, false, false] rfl rfl (any_of HT_.out (by kernel_rfl)) (fun _ _ _ h => h) (Or.inl ⟨by rfl, ?_⟩) ?_ ?_
        rotate_left
        · intro w'
          go_simp
          with_reducible rfl
        rotate_left
        · simp only [Act.put, List.setIfInBounds_toArray, List.set_cons_zero, List.set_cons_succ, i64_w, i32_w]
          rfl
        refine pure_ (i := 1) (N := some 24) (v := ?_) (a' := ?_) #[true, true, false, false, false, false, false, false, false, false, false] rfl rfl (any_of HT_.out (by kernel_rfl)) (fun _ _ _ h => h) (Or.inl ⟨by rfl, ?_⟩) ?_ ?_
        rotate_left
        · intro w'
          go_simp
          with_reducible rfl
        rotate_left
        · simp only [Act.put, List.setIfInBounds_toArray, List.set_cons_zero, List.set_cons_succ, i64_w, i32_w]
          rfl
        refine take_ (i := 2) (N := some 25) (v := ?_) (a' := ?_) #[true, true, true, false, false, false, false, false, false, false, false] rfl rfl (take_ofW HT_.out HW_.out (by kernel_rfl)) (fun _ _ _ h => h) (Or.inl ⟨by rfl, ?_⟩) hHeld ?_ ?_
        rotate_left
        · intro w' hs
          have s1 := below_cell hs f1_.out; have s2 := below_cell hs f2_.out
          go_simp
          with_reducible rfl
        rotate_left
        · simp only [Act.put, List.setIfInBounds_toArray, List.set_cons_zero, List.set_cons_succ, i64_w, i32_w]
          rfl
        refine pure_ (i := 3) (N := some 26) (v := ?_) (a' := ?_) #[true, true, true, true, false, false, false, false, false, false, false] rfl rfl (any_of HT_.out (by kernel_rfl)) (fun _ _ _ h => h) (Or.inl ⟨by rfl, ?_⟩) ?_ ?_
        rotate_left
        · intro w'
          go_simp
          with_reducible rfl
        rotate_left
        · simp only [Act.put, List.setIfInBounds_toArray, List.set_cons_zero, List.set_cons_succ, i64_w, i32_w]
          rfl
        refine pure_ (i := 4) (N := some 27) (v := ?_) (a' := ?_) #[true, true, true, true, true, false, false, false, false, false, false] rfl rfl (any_of HT_.out (by kernel_rfl)) (fun _ _ _ h => h) (Or.inl ⟨by rfl, ?_⟩) ?_ ?_
        rotate_left
        · intro w'
          go_simp
          with_reducible rfl
        rotate_left
        · simp only [Act.put, List.setIfInBounds_toArray, List.set_cons_zero, List.set_cons_succ, i64_w, i32_w]
          rfl
        refine pure_ (i := 5) (N := some 28) (v := ?_) (a' := ?_) #[true, true, true, true, true, true, false, false, false, false, false] rfl rfl (any_of HT_.out (by kernel_rfl)) (fun _ _ _ h => h) (Or.inl ⟨by rfl, ?_⟩) ?_ ?_
        rotate_left
        · intro w'
          go_simp
          with_reducible rfl
        rotate_left
        · simp only [Act.put, List.setIfInBounds_toArray, List.set_cons_zero, List.set_cons_succ, i64_w, i32_w]
          rfl
        refine take_ (i := 6) (N := some 29) (v := ?_) (a' := ?_) #[true, true, true, true, true, true, true, false, false, false, false] rfl rfl (take_ofW HT_.out HW_.out (by kernel_rfl)) (fun _ _ _ h => h) (Or.inl ⟨by rfl, ?_⟩) hHeld ?_ ?_
        rotate_left
        · intro w' hs
          have s1 := below_cell hs f1_.out; have s2 := below_cell hs f2_.out
          go_simp
          with_reducible rfl
        rotate_left
        · simp only [Act.put, List.setIfInBounds_toArray, List.set_cons_zero, List.set_cons_succ, i64_w, i32_w]
          rfl
        refine pure_ (i := 7) (N := some 30) (v := ?_) (a' := ?_) #[true, true, true, true, true, true, true, true, false, false, false] rfl rfl (any_of HT_.out (by kernel_rfl)) (fun _ _ _ h => h) (Or.inl ⟨by rfl, ?_⟩) ?_ ?_
        rotate_left
        · intro w'
          go_simp
          with_reducible rfl
        rotate_left
        · simp only [Act.put, List.setIfInBounds_toArray, List.set_cons_zero, List.set_cons_succ, i64_w, i32_w]
          rfl
        refine one_ (i := 8) (N := some 31) #[true, true, true, true, true, true, true, true, true, false, false] rfl rfl (one_of HT_.out (by kernel_rfl)) (by decide) (fun K hK => ?_)
        with_reducible refine val_step (N := some 31) (.slice (some ⟨W0.heap.size, 0, none⟩) 1 1) (w1 := W0.alloc (.cells #[.int .i64 (rd_Rec rs i).2.2.2.2.2.2.2.2.2.2.2.1, .int .i64 (rd ps i)] 34)) ?hw ?hd ?hr ?_
        case hw => rfl
        case hd => rfl
        case hr => first | (go_simp; done) | (go_simp; rfl)
        refine hK.out _ _ (below_alloc hHeld _) (fun hHeld2 => ?_)
        clear hK K
        refine norm_ (a' := ?_) ?_ ?_
        rotate_left
        · simp only [Act.put, List.setIfInBounds_toArray, List.set_cons_zero, List.set_cons_succ]
          rfl
        refine last_ (i := 9) (N := some 32) #[true, true, true, true, true, true, true, true, true, true, false] rfl rfl (one_of HT_.out (by kernel_rfl)) (by decide) (fun K hK => ?_)
        with_reducible refine app_step (w0 := w) k34 w.heap.size ?hw ?hd (.tmp 23) (.tmp 31) 28 34 (.agg #[.int .i64 0, .int .i64 0]) 16 ?ao ?aT ?ai ?az ?a0 ?a1 u3 (spansTo rs ps i.toNat) ⟨(rd_Rec rs i).2.2.2.2.2.2.2.2.2.2.2.1, rd ps i⟩ [.int .i64 (rd_Rec rs i).2.2.2.2.2.2.2.2.2.2.2.1, .int .i64 (rd ps i)] (fun _ => True) (fun _ => False) ?hs ?hx ?aP (fun _ hk => hk.elim) ?aF ?aO ?aB ?aS ?aL ?_
        case hw => rfl
        case hd => rfl
        case ao => rfl
        case aT => exact Tryz.underlying28
        case ai => exact info34
        case az => rfl
        case a0 => decide
        case a1 => omega
        case hs => rfl
        case hx => rfl
        case aP => exact k34_mkM _ _ _ _
        case aF => exact (fun _ _ => trivial)
        case aO => exact m3_.out
        case aB => exact m4_.out
        case aS => exact m4_.out.size
        case aL => have := m5_.out; omega
        intro v1 w2 ho hb hg hat
        refine hK.out _ _ ?_
        clear hK K; have n3_ := Aside0.mk ho; have n4_ := Aside0.mk hb; have n1_ := Aside0.mk (R_apart m3_.out m1_.out hg (by decide)); have n2_ := Aside0.mk (R_apart m3_.out m2_.out hg (by decide)); clear ho hb hg hat
        refine norm_ (a' := ?_) ?_ ?_
        rotate_left
        · simp only [Act.put, List.setIfInBounds_toArray, List.set_cons_zero, List.set_cons_succ]
          rfl
        refine pure_ (i := 10) (N := some 3) (v := ?_) (a' := ?_) #[true, true, true, true, true, true, true, true, true, true, true] rfl rfl (any_of HT_.out (by kernel_rfl)) (fun _ _ _ h => h) (Or.inl ⟨by rfl, ?_⟩) ?_ ?_
        rotate_left
        · intro w'
          go_simp
          with_reducible rfl
        rotate_left
        · simp only [Act.put, List.setIfInBounds_toArray, List.set_cons_zero, List.set_cons_succ, i64_w, i32_w]
          rfl
        refine done_ (done_of HT_.out (by kernel_rfl)) ?_
        go_wp2_with fail
        go_roundg k1
        case measure => omega
        case rel => exact ⟨i + 1, by first | rfl | rw [hw], ⟨by omega, by have := HN.out; omega⟩, ⟨by rw [hnx, hst]; exact n3_.out⟩, n1_, n2_, n4_⟩
      · have b1 : ((rd_Rec rs i).1 == 10) = false := beq_eq_false_iff_ne.mpr he
        have hst : spansTo rs ps (i.toNat + 1) = spansTo rs ps i.toNat := if_neg he
        clear he
        go_wp2_with fail
        go_roundg k1
        case measure => omega
        case rel => exact ⟨i + 1, by first | rfl | rw [hw], ⟨by omega, by have := HN.out; omega⟩, ⟨by rw [hnx, hst]; exact hO⟩, ⟨hR1⟩, ⟨hR2⟩, HBW⟩
def redo_Commits.T7 : Bool × List (List Nat × List Nat) := (true, [([], []), ([], []), ([1], [1]), ([], []), ([], []), ([3, 4], [3, 4]), ([5], [5]), ([2, 6], [2, 6]), ([7], [7]), ([0, 8], [0, 8]), ([9, 9, 0, 1, 2, 3, 4, 5, 6, 7, 8, 9], [0, 9])])
def redo_Commits.B7 : List Nat := [0, 0, 2, 0, 0, 24, 56, 126, 254, 511, 1023]
theorem redo_Commits.tab7 : rtab .any (opsOf Tryz.f12 7) = redo_Commits.T7 := by kernel_rfl
theorem redo_Commits.bits7 : waitsOk redo_Commits.T7.2 redo_Commits.B7 = true := by kernel_rfl
set_option maxHeartbeats 8000000 in
set_option maxRecDepth 100000 in
theorem redo_Commits (L d : Nat) (base sectors run : Int) (all : ByteArray) (dur : Int) (en : Int) (w : World) (hL : IsLog w L d base sectors run all dur) (hs : all.size ≤ 11600) :
    Calls Tryz.prog 12 #[.pointer (some ⟨L, 0, none⟩), .int .i64 en] w fun e w' => ∃ v, e = .returned v ∧ Kd.R k36 36 w' w.heap.size (fun _ => True) v (commTo (recsF all).1 (recsF all).2 en (recsF all).1.length) ∧ Below w.heap.size w w' := by
  have HR := Aside0.mk (log_Records L d base sectors run all dur w hL hs); have HLN := Aside0.mk (recsF_len all hs)
  generalize recsF all = RP at *
  obtain ⟨rs, ps⟩ := RP
  dsimp only at HR HLN ⊢
  have hu32 := Tryz.underlying32; have HB := Aside0.mk (Below.refl w.heap.size w); clear hL hs
  go_enter Tryz.func12, Tryz.ntmps12
  go_wp2_with fail
  refine HR.out.mono ?_
  rintro e w1 ⟨v1, v2, rfl, q1, q2, hb⟩
  obtain ⟨A1, d1, rfl⟩ := Kd.R_slice q1
  obtain ⟨A2, d2, rfl⟩ := Kd.R_slice q2
  have Q1 := Aside0.mk q1; have Q2 := Aside0.mk q2; have HB1 := Aside0.mk hb; clear q1 q2 hb HR HB
  go_wp2_with fail
  go_loopg [5, 17] (rs.length) (fun kq vo vi w' => ∃ i : Int, vi = .int .i64 i ∧ Aside0 (0 ≤ i ∧ i.toNat + kq = rs.length) ∧ Aside0 (Kd.R k36 36 w' w.heap.size (fun k => w1.heap.size ≤ k) vo (commTo rs ps en i.toNat)) ∧ Aside0 (Kd.R kRec 32 w' w.heap.size (fun k => k < w1.heap.size) (.slice A1 rs.length d1) rs) ∧ Aside0 (Kd.R (Kd.int .i64) 3 w' w.heap.size (fun k => k < w1.heap.size) (.slice A2 ps.length d2) ps) ∧ Aside0 (w1.heap.size ≤ w'.heap.size) ∧ Aside0 (Below w.heap.size w w'))
  case atStart => exact ⟨0, rfl, ⟨by omega, by simp⟩, ⟨Kd.R_nil _ _ _ _ _⟩, ⟨Kd.R_mono (Kd.R_bound Q1.out) (fun k h => h.2.2.1)⟩, ⟨Kd.R_mono (Kd.R_bound Q2.out) (fun k h => h.2.2.1)⟩, ⟨Nat.le_refl _⟩, HB1⟩
  case round =>
    obtain ⟨i, rfl, HN, HO, HR1, HR2, HSZ, HB⟩ := hrel
    cases gk with
    | zero =>
      have b0 : decide (i < (rs.length : Int)) = false := decide_eq_false (by have := HN.out; omega)
      have hn : i.toNat = rs.length := by have := HN.out; omega
      go_wp2_with fail
      go_ret
      exact ⟨_, rfl, by rw [← hn]; exact Kd.R_mono HO.out (fun _ _ => trivial), HB.out⟩
    | succ k1 =>
      have hi : i < (rs.length : Int) := by have := HN.out; omega
      have h0 : 0 ≤ i := HN.out.1
      have b0 : decide (i < (rs.length : Int)) = true := decide_eq_true hi
      have hw : wrap64 (i + 1) = i + 1 := w64 (by omega) (by have := HLN.out.2; omega)
      have hnx : (i + 1).toNat = i.toNat + 1 := by omega
      obtain ⟨ad, A9, c9, A10, c10, rfl, z0, z1, z2, z3, z4, z5, z6, z7, z8, z9, z10, z11, z12, _⟩ := at_Rec (Kd.R_reads' HR1.out).2.2 i h0 hi
      obtain ⟨ad2, rfl, x0⟩ := Kd.at_int (Kd.R_reads' HR2.out).2.2 i h0 (by have := HLN.out.1; omega)
      have hi2 : i < (ps.length : Int) := by have := HLN.out.1; omega
      have HBW := Aside0.mk (below_alloc HB.out (.cells #[.int .i64 (rd_Rec rs i).1, .int .i64 (rd_Rec rs i).2.1, .int .i64 (rd_Rec rs i).2.2.1, .int .i64 (rd_Rec rs i).2.2.2.1, .int .i64 (rd_Rec rs i).2.2.2.2.1, .string (rd_Rec rs i).2.2.2.2.2.1, .string (rd_Rec rs i).2.2.2.2.2.2.1, .string (rd_Rec rs i).2.2.2.2.2.2.2.1, .int .i64 (rd_Rec rs i).2.2.2.2.2.2.2.2.1, .slice A9 (rd_Rec rs i).2.2.2.2.2.2.2.2.2.1.length c9, .slice A10 (rd_Rec rs i).2.2.2.2.2.2.2.2.2.2.1.length c10, .int .i64 (rd_Rec rs i).2.2.2.2.2.2.2.2.2.2.2.1, .int .i64 (rd_Rec rs i).2.2.2.2.2.2.2.2.2.2.2.2] 32))
      have HSW : Aside0 (w1.heap.size ≤ (wr.alloc (.cells #[.int .i64 (rd_Rec rs i).1, .int .i64 (rd_Rec rs i).2.1, .int .i64 (rd_Rec rs i).2.2.1, .int .i64 (rd_Rec rs i).2.2.2.1, .int .i64 (rd_Rec rs i).2.2.2.2.1, .string (rd_Rec rs i).2.2.2.2.2.1, .string (rd_Rec rs i).2.2.2.2.2.2.1, .string (rd_Rec rs i).2.2.2.2.2.2.2.1, .int .i64 (rd_Rec rs i).2.2.2.2.2.2.2.2.1, .slice A9 (rd_Rec rs i).2.2.2.2.2.2.2.2.2.1.length c9, .slice A10 (rd_Rec rs i).2.2.2.2.2.2.2.2.2.2.1.length c10, .int .i64 (rd_Rec rs i).2.2.2.2.2.2.2.2.2.2.2.1, .int .i64 (rd_Rec rs i).2.2.2.2.2.2.2.2.2.2.2.2] 32)).heap.size) := ⟨Nat.le_trans HSZ.out (below_alloc (Below.refl _ _) _).size⟩
      have hO := Kd.R_alloc HO.out (.cells #[.int .i64 (rd_Rec rs i).1, .int .i64 (rd_Rec rs i).2.1, .int .i64 (rd_Rec rs i).2.2.1, .int .i64 (rd_Rec rs i).2.2.2.1, .int .i64 (rd_Rec rs i).2.2.2.2.1, .string (rd_Rec rs i).2.2.2.2.2.1, .string (rd_Rec rs i).2.2.2.2.2.2.1, .string (rd_Rec rs i).2.2.2.2.2.2.2.1, .int .i64 (rd_Rec rs i).2.2.2.2.2.2.2.2.1, .slice A9 (rd_Rec rs i).2.2.2.2.2.2.2.2.2.1.length c9, .slice A10 (rd_Rec rs i).2.2.2.2.2.2.2.2.2.2.1.length c10, .int .i64 (rd_Rec rs i).2.2.2.2.2.2.2.2.2.2.2.1, .int .i64 (rd_Rec rs i).2.2.2.2.2.2.2.2.2.2.2.2] 32)
      have hR1 := Kd.R_alloc HR1.out (.cells #[.int .i64 (rd_Rec rs i).1, .int .i64 (rd_Rec rs i).2.1, .int .i64 (rd_Rec rs i).2.2.1, .int .i64 (rd_Rec rs i).2.2.2.1, .int .i64 (rd_Rec rs i).2.2.2.2.1, .string (rd_Rec rs i).2.2.2.2.2.1, .string (rd_Rec rs i).2.2.2.2.2.2.1, .string (rd_Rec rs i).2.2.2.2.2.2.2.1, .int .i64 (rd_Rec rs i).2.2.2.2.2.2.2.2.1, .slice A9 (rd_Rec rs i).2.2.2.2.2.2.2.2.2.1.length c9, .slice A10 (rd_Rec rs i).2.2.2.2.2.2.2.2.2.2.1.length c10, .int .i64 (rd_Rec rs i).2.2.2.2.2.2.2.2.2.2.2.1, .int .i64 (rd_Rec rs i).2.2.2.2.2.2.2.2.2.2.2.2] 32)
      have hR2 := Kd.R_alloc HR2.out (.cells #[.int .i64 (rd_Rec rs i).1, .int .i64 (rd_Rec rs i).2.1, .int .i64 (rd_Rec rs i).2.2.1, .int .i64 (rd_Rec rs i).2.2.2.1, .int .i64 (rd_Rec rs i).2.2.2.2.1, .string (rd_Rec rs i).2.2.2.2.2.1, .string (rd_Rec rs i).2.2.2.2.2.2.1, .string (rd_Rec rs i).2.2.2.2.2.2.2.1, .int .i64 (rd_Rec rs i).2.2.2.2.2.2.2.2.1, .slice A9 (rd_Rec rs i).2.2.2.2.2.2.2.2.2.1.length c9, .slice A10 (rd_Rec rs i).2.2.2.2.2.2.2.2.2.2.1.length c10, .int .i64 (rd_Rec rs i).2.2.2.2.2.2.2.2.2.2.2.1, .int .i64 (rd_Rec rs i).2.2.2.2.2.2.2.2.2.2.2.2] 32)
      have x1 := below_cell (below_alloc (Below.refl _ _) (.cells #[.int .i64 (rd_Rec rs i).1, .int .i64 (rd_Rec rs i).2.1, .int .i64 (rd_Rec rs i).2.2.1, .int .i64 (rd_Rec rs i).2.2.2.1, .int .i64 (rd_Rec rs i).2.2.2.2.1, .string (rd_Rec rs i).2.2.2.2.2.1, .string (rd_Rec rs i).2.2.2.2.2.2.1, .string (rd_Rec rs i).2.2.2.2.2.2.2.1, .int .i64 (rd_Rec rs i).2.2.2.2.2.2.2.2.1, .slice A9 (rd_Rec rs i).2.2.2.2.2.2.2.2.2.1.length c9, .slice A10 (rd_Rec rs i).2.2.2.2.2.2.2.2.2.2.1.length c10, .int .i64 (rd_Rec rs i).2.2.2.2.2.2.2.2.2.2.2.1, .int .i64 (rd_Rec rs i).2.2.2.2.2.2.2.2.2.2.2.2] 32)) x0
      have y1 : (wr.alloc (.cells #[.int .i64 (rd_Rec rs i).1, .int .i64 (rd_Rec rs i).2.1, .int .i64 (rd_Rec rs i).2.2.1, .int .i64 (rd_Rec rs i).2.2.2.1, .int .i64 (rd_Rec rs i).2.2.2.2.1, .string (rd_Rec rs i).2.2.2.2.2.1, .string (rd_Rec rs i).2.2.2.2.2.2.1, .string (rd_Rec rs i).2.2.2.2.2.2.2.1, .int .i64 (rd_Rec rs i).2.2.2.2.2.2.2.2.1, .slice A9 (rd_Rec rs i).2.2.2.2.2.2.2.2.2.1.length c9, .slice A10 (rd_Rec rs i).2.2.2.2.2.2.2.2.2.2.1.length c10, .int .i64 (rd_Rec rs i).2.2.2.2.2.2.2.2.2.2.2.1, .int .i64 (rd_Rec rs i).2.2.2.2.2.2.2.2.2.2.2.2] 32)).cell? ⟨wr.heap.size, 1, none⟩ = some (.int .i64 (rd_Rec rs i).2.1) := (blk_cell (blk_new wr (.cells #[.int .i64 (rd_Rec rs i).1, .int .i64 (rd_Rec rs i).2.1, .int .i64 (rd_Rec rs i).2.2.1, .int .i64 (rd_Rec rs i).2.2.2.1, .int .i64 (rd_Rec rs i).2.2.2.2.1, .string (rd_Rec rs i).2.2.2.2.2.1, .string (rd_Rec rs i).2.2.2.2.2.2.1, .string (rd_Rec rs i).2.2.2.2.2.2.2.1, .int .i64 (rd_Rec rs i).2.2.2.2.2.2.2.2.1, .slice A9 (rd_Rec rs i).2.2.2.2.2.2.2.2.2.1.length c9, .slice A10 (rd_Rec rs i).2.2.2.2.2.2.2.2.2.2.1.length c10, .int .i64 (rd_Rec rs i).2.2.2.2.2.2.2.2.2.2.2.1, .int .i64 (rd_Rec rs i).2.2.2.2.2.2.2.2.2.2.2.2] 32)) 1).trans rfl
      by_cases he : (rd_Rec rs i).1 = 7
      · have b1 : ((rd_Rec rs i).1 == 7) = true := beq_iff_eq.mpr he
        by_cases he2 : rd ps i < en
        · have b2 : decide (rd ps i < en) = true := decide_eq_true he2
          have hst : commTo rs ps en (i.toNat + 1) = commTo rs ps en i.toNat ++ [⟨(rd_Rec rs i).2.1, rd ps i⟩] := if_pos ⟨he, he2⟩
          clear he he2
          go_wp2_with fail
          have HO := Aside0.mk hO; have HR1 := Aside0.mk hR1; have HR2 := Aside0.mk hR2; have F1 := Aside0.mk y1; have F2 := Aside0.mk x1; clear hO hR1 hR2 y1 x1 x0 z0 z1 z2 z3 z4 z5 z6 z7 z8 z9 z10 z11 z12
          generalize wr.alloc (.cells #[.int .i64 (rd_Rec rs i).1, .int .i64 (rd_Rec rs i).2.1, .int .i64 (rd_Rec rs i).2.2.1, .int .i64 (rd_Rec rs i).2.2.2.1, .int .i64 (rd_Rec rs i).2.2.2.2.1, .string (rd_Rec rs i).2.2.2.2.2.1, .string (rd_Rec rs i).2.2.2.2.2.2.1, .string (rd_Rec rs i).2.2.2.2.2.2.2.1, .int .i64 (rd_Rec rs i).2.2.2.2.2.2.2.2.1, .slice A9 (rd_Rec rs i).2.2.2.2.2.2.2.2.2.1.length c9, .slice A10 (rd_Rec rs i).2.2.2.2.2.2.2.2.2.2.1.length c10, .int .i64 (rd_Rec rs i).2.2.2.2.2.2.2.2.2.2.2.1, .int .i64 (rd_Rec rs i).2.2.2.2.2.2.2.2.2.2.2.2] 32) = W at HO HR1 HR2 HBW HSW F1 F2 ⊢
          generalize wr.heap.size = g at F1 ⊢
          refine start_ (n := 11) (S := fun w' => Below W.drew.heap.size W.drew w') (ds := [9]) #[false, false, false, false, false, false, false, false, false, false, false] (by kernel_rfl) rfl rfl (Below.refl _ _) (fun hHeld => ?_); refine with_tabW redo_Commits.tab7 redo_Commits.bits7 (fun HT_ HW_ => ?_)
          have m1_ := Aside0.mk (Kd.R_drew HR1.out); have m2_ := Aside0.mk (Kd.R_drew HR2.out); have m3_ := Aside0.mk (Kd.R_drew HO.out); have m4_ := Aside0.mk (below_drew HBW.out)
          have m6_ : Aside0 (w1.heap.size ≤ W.drew.heap.size) := ⟨HSW.out⟩
          have m5_ := Aside0.mk (show (commTo rs ps en i.toNat).length ≤ 11600 by have := redo_Commits_len rs ps en i.toNat; have := HLN.out.2; omega)
          have f1_ : Aside0 (W.drew.cell? ⟨g, 1, none⟩ = some (.int .i64 (rd_Rec rs i).2.1)) := ⟨F1.out⟩
          have f2_ : Aside0 (W.drew.cell? (ad2.add i.toNat) = some (.int .i64 (rd ps i))) := ⟨F2.out⟩
          clear HR1 HR2 HO HBW F1 F2 HSW
          generalize W.drew = W0 at m1_ m2_ m3_ m4_ m6_ f1_ f2_ hHeld ⊢
          refine pure_ (i := 0) (N := some 33) (v := ?_) (a' := ?_) #[true, false, false, false, false, false, false, false, false, false, false] rfl rfl (any_of HT_.out (by kernel_rfl)) (fun _ _ _ h => h) (Or.inl ⟨by rfl, ?_⟩) ?_ ?_
          rotate_left
          · intro w'
            go_simp
            with_reducible rfl
          rotate_left
          · simp only [Act.put, List.setIfInBounds_toArray, List.set_cons_zero, List.set_cons_succ, i64_w, i32_w]
            rfl
          refine pure_ (i := 1) (N := some 34) (v := ?_) (a' := ?_) #[true, true, false, false, false, false, false, false, false, false, false] rfl rfl (any_of HT_.out (by kernel_rfl)) (fun _ _ _ h => h) (Or.inl ⟨by rfl, ?_⟩) ?_ ?_
          rotate_left
          · intro w'
            go_simp
            with_reducible rfl
          rotate_left
          · simp only [Act.put, List.setIfInBounds_toArray, List.set_cons_zero, List.set_cons_succ, i64_w, i32_w]
            rfl
          refine take_ (i := 2) (N := some 35) (v := ?_) (a' := ?_) #[true, true, true, false, false, false, false, false, false, false, false] rfl rfl (take_ofW HT_.out HW_.out (by kernel_rfl)) (fun _ _ _ h => h) (Or.inl ⟨by rfl, ?_⟩) hHeld ?_ ?_
          rotate_left
          · intro w' hs
            have s1 := below_cell hs f1_.out; have s2 := below_cell hs f2_.out
            go_simp
            with_reducible rfl
          rotate_left
          · simp only [Act.put, List.setIfInBounds_toArray, List.set_cons_zero, List.set_cons_succ, i64_w, i32_w]
            rfl
          refine pure_ (i := 3) (N := some 36) (v := ?_) (a' := ?_) #[true, true, true, true, false, false, false, false, false, false, false] rfl rfl (any_of HT_.out (by kernel_rfl)) (fun _ _ _ h => h) (Or.inl ⟨by rfl, ?_⟩) ?_ ?_
          rotate_left
          · intro w'
            go_simp
            with_reducible rfl
          rotate_left
          · simp only [Act.put, List.setIfInBounds_toArray, List.set_cons_zero, List.set_cons_succ, i64_w, i32_w]
            rfl
          refine pure_ (i := 4) (N := some 37) (v := ?_) (a' := ?_) #[true, true, true, true, true, false, false, false, false, false, false] rfl rfl (any_of HT_.out (by kernel_rfl)) (fun _ _ _ h => h) (Or.inl ⟨by rfl, ?_⟩) ?_ ?_
          rotate_left
          · intro w'
            go_simp
            with_reducible rfl
          rotate_left
          · simp only [Act.put, List.setIfInBounds_toArray, List.set_cons_zero, List.set_cons_succ, i64_w, i32_w]
            rfl
          refine pure_ (i := 5) (N := some 38) (v := ?_) (a' := ?_) #[true, true, true, true, true, true, false, false, false, false, false] rfl rfl (any_of HT_.out (by kernel_rfl)) (fun _ _ _ h => h) (Or.inl ⟨by rfl, ?_⟩) ?_ ?_
          rotate_left
          · intro w'
            go_simp
            with_reducible rfl
          rotate_left
          · simp only [Act.put, List.setIfInBounds_toArray, List.set_cons_zero, List.set_cons_succ, i64_w, i32_w]
            rfl
          refine take_ (i := 6) (N := some 39) (v := ?_) (a' := ?_) #[true, true, true, true, true, true, true, false, false, false, false] rfl rfl (take_ofW HT_.out HW_.out (by kernel_rfl)) (fun _ _ _ h => h) (Or.inl ⟨by rfl, ?_⟩) hHeld ?_ ?_
          rotate_left
          · intro w' hs
            have s1 := below_cell hs f1_.out; have s2 := below_cell hs f2_.out
            go_simp
            with_reducible rfl
          rotate_left
          · simp only [Act.put, List.setIfInBounds_toArray, List.set_cons_zero, List.set_cons_succ, i64_w, i32_w]
            rfl
          refine pure_ (i := 7) (N := some 40) (v := ?_) (a' := ?_) #[true, true, true, true, true, true, true, true, false, false, false] rfl rfl (any_of HT_.out (by kernel_rfl)) (fun _ _ _ h => h) (Or.inl ⟨by rfl, ?_⟩) ?_ ?_
          rotate_left
          · intro w'
            go_simp
            with_reducible rfl
          rotate_left
          · simp only [Act.put, List.setIfInBounds_toArray, List.set_cons_zero, List.set_cons_succ, i64_w, i32_w]
            rfl
          refine one_ (i := 8) (N := some 41) #[true, true, true, true, true, true, true, true, true, false, false] rfl rfl (one_of HT_.out (by kernel_rfl)) (by decide) (fun K hK => ?_)
          with_reducible refine val_step (N := some 41) (.slice (some ⟨W0.heap.size, 0, none⟩) 1 1) (w1 := W0.alloc (.cells #[.int .i64 (rd_Rec rs i).2.1, .int .i64 (rd ps i)] 36)) ?hw ?hd ?hr ?_
          case hw => rfl
          case hd => rfl
          case hr => first | (go_simp; done) | (go_simp; rfl)
          refine hK.out _ _ (below_alloc hHeld _) (fun hHeld2 => ?_)
          clear hK K
          refine norm_ (a' := ?_) ?_ ?_
          rotate_left
          · simp only [Act.put, List.setIfInBounds_toArray, List.set_cons_zero, List.set_cons_succ]
            rfl
          refine last_ (i := 9) (N := some 42) #[true, true, true, true, true, true, true, true, true, true, false] rfl rfl (one_of HT_.out (by kernel_rfl)) (by decide) (fun K hK => ?_)
          with_reducible refine app_step (w0 := w) k36 w.heap.size ?hw ?hd (.tmp 33) (.tmp 41) 29 36 (.agg #[.int .i64 0, .int .i64 0]) 16 ?ao ?aT ?ai ?az ?a0 ?a1 u5 (commTo rs ps en i.toNat) ⟨(rd_Rec rs i).2.1, rd ps i⟩ [.int .i64 (rd_Rec rs i).2.1, .int .i64 (rd ps i)] (fun k => w1.heap.size ≤ k) (fun _ => False) ?hs ?hx ?aP (fun _ hk => hk.elim) ?aF ?aO ?aB ?aS ?aL ?_
          case hw => rfl
          case hd => rfl
          case ao => rfl
          case aT => exact Tryz.underlying29
          case ai => exact info36
          case az => rfl
          case a0 => decide
          case a1 => omega
          case hs => rfl
          case hx => rfl
          case aP => exact k36_mkM _ _ _ _
          case aF => exact (fun k hk => Nat.le_trans m6_.out hk)
          case aO => exact m3_.out
          case aB => exact m4_.out
          case aS => exact m4_.out.size
          case aL => have := m5_.out; omega
          intro v1 w2 ho hb hg hat
          refine hK.out _ _ ?_
          clear hK K; have n3_ := Aside0.mk ho; have n4_ := Aside0.mk hb
          have n1_ := Aside0.mk (R_apartK m1_.out hg (fun k he => Nat.not_lt.mpr (m3_.out.1 k he)))
          have n2_ := Aside0.mk (R_apartK m2_.out hg (fun k he => Nat.not_lt.mpr (m3_.out.1 k he)))
          have n6_ := Aside0.mk (Nat.le_trans m6_.out hg.size); clear ho hb hg hat
          refine norm_ (a' := ?_) ?_ ?_
          rotate_left
          · simp only [Act.put, List.setIfInBounds_toArray, List.set_cons_zero, List.set_cons_succ]
            rfl
          refine pure_ (i := 10) (N := some 5) (v := ?_) (a' := ?_) #[true, true, true, true, true, true, true, true, true, true, true] rfl rfl (any_of HT_.out (by kernel_rfl)) (fun _ _ _ h => h) (Or.inl ⟨by rfl, ?_⟩) ?_ ?_
          rotate_left
          · intro w'
            go_simp
            with_reducible rfl
          rotate_left
          · simp only [Act.put, List.setIfInBounds_toArray, List.set_cons_zero, List.set_cons_succ, i64_w, i32_w]
            rfl
          refine done_ (done_of HT_.out (by kernel_rfl)) ?_
          go_wp2_with fail
          go_roundg k1
          case measure => omega
          case rel => exact ⟨i + 1, by first | rfl | rw [hw], ⟨by omega, by have := HN.out; omega⟩, ⟨by rw [hnx, hst]; exact n3_.out⟩, n1_, n2_, n6_, n4_⟩
        · have b2 : decide (rd ps i < en) = false := decide_eq_false he2
          have hst : commTo rs ps en (i.toNat + 1) = commTo rs ps en i.toNat := if_neg (fun h => he2 h.2)
          clear he he2
          go_wp2_with fail
          go_roundg k1
          case measure => omega
          case rel => exact ⟨i + 1, by first | rfl | rw [hw], ⟨by omega, by have := HN.out; omega⟩, ⟨by rw [hnx, hst]; exact hO⟩, ⟨hR1⟩, ⟨hR2⟩, HSW, HBW⟩
      · have b1 : ((rd_Rec rs i).1 == 7) = false := beq_eq_false_iff_ne.mpr he
        have hst : commTo rs ps en (i.toNat + 1) = commTo rs ps en i.toNat := if_neg (fun h => he h.1)
        clear he
        go_wp2_with fail
        go_roundg k1
        case measure => omega
        case rel => exact ⟨i + 1, by first | rfl | rw [hw], ⟨by omega, by have := HN.out; omega⟩, ⟨by rw [hnx, hst]; exact hO⟩, ⟨hR1⟩, ⟨hR2⟩, HSW, HBW⟩
end Go.Proofs.YteoebfiacnploaaGreat.HRec
