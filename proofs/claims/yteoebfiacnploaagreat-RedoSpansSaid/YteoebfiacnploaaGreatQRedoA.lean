/- Contracts of redo.Check and redo.Leader. They prove no statement. -/
import Derived.Test.YteoebfiacnploaaGreatQG10
import Derived.Test.YteoebfiacnploaaGreatQG2
namespace Go.Proofs.YteoebfiacnploaaGreat.HRec
open Go.RowKit Go.Proofs.YteoebfiacnploaaGreatW.PrintWords Go.Proofs.YteoebfiacnploaaGreatW.PrintLast Go.Proofs.YteoebfiacnploaaGreatW.PrintMore
set_option linter.unusedVariables false
set_option linter.unusedSimpArgs false
theorem recsL_len (all : ByteArray) (hs : all.size ≤ 11600) : ∀ (k : Nat) (rs : List RecT) (ps : List Int) (lsn : Int) (a : List RecT) (b : List Int), recsL k all rs ps lsn = some (a, b) → 1 ≤ lsn → rs.length = ps.length → rs.length ≤ 11600 → (rs.length : Int) < lsn → a.length = b.length ∧ a.length ≤ 11600
  | 0, _, _, _, _, _, h, _, _, _, _ => by simp [recsL] at h
  | k + 1, rs, ps, lsn, a, b, h, h1, hl, hb, hn => by
    unfold recsL at h
    by_cases hc : lsn ≤ (all.size : Int)
    · obtain ⟨r, hr, hz⟩ := read_tot all lsn hs h1
      rw [if_pos hc, hr, Option.bind_some] at h
      by_cases he : r.2.2.2.2.2.2.2.2.2.2.2.2.2.2 = 0
      · have hz := hz he
        rw [if_pos he] at h
        exact recsL_len all hs k _ _ _ a b h (by omega) (by simp [hl]) (by simp; omega) (by simp; omega)
      · rw [if_neg he] at h
        simp only [Option.some.injEq, Prod.mk.injEq] at h
        obtain ⟨rfl, rfl⟩ := h
        exact ⟨hl, hb⟩
    · rw [if_neg hc] at h
      simp only [Option.some.injEq, Prod.mk.injEq] at h
      obtain ⟨rfl, rfl⟩ := h
      exact ⟨hl, hb⟩
theorem recsF_len (all : ByteArray) (hs : all.size ≤ 11600) : (recsF all).1.length = (recsF all).2.length ∧ (recsF all).1.length ≤ 11600 := recsL_len all hs 11700 [] [] 1 _ _ (recsF_eq all hs) (by omega) rfl (by simp) (by simp)
/-- The place of the last check of so many records. -/
def checkTo (rs : List RecT) (ps : List Int) : Nat → Int
  | 0 => 0
  | n + 1 => if (rs.getD n zRec).1 = 9 then ps.getD n 0 else checkTo rs ps n
/-- The last epoch of so many records, and whose it is. -/
def leadTo (rs : List RecT) : Nat → Int × Int
  | 0 => (0, 0)
  | n + 1 => if (rs.getD n zRec).1 = 10 then ((rs.getD n zRec).2.2.2.2.2.2.2.2.2.2.2.1, (rs.getD n zRec).2.2.2.2.2.2.2.2.2.2.2.2) else leadTo rs n
set_option maxHeartbeats 8000000 in
set_option maxRecDepth 100000 in
theorem redo_Check (L d : Nat) (base sectors run : Int) (all : ByteArray) (dur : Int) (w : World) (hL : IsLog w L d base sectors run all dur) (hs : all.size ≤ 11600) :
    Calls Tryz.prog 10 #[.pointer (some ⟨L, 0, none⟩)] w fun e w' => e = .returned (.int .i64 (checkTo (recsF all).1 (recsF all).2 (recsF all).1.length)) ∧ Below w.heap.size w w' := by
  have HR := Aside0.mk (log_Records L d base sectors run all dur w hL hs); have HLN := Aside0.mk (recsF_len all hs)
  generalize recsF all = RP at *
  obtain ⟨rs, ps⟩ := RP
  dsimp only at HR HLN ⊢
  have hu32 := Tryz.underlying32; have HB := Aside0.mk (Below.refl w.heap.size w); clear hL hs
  go_enter Tryz.func10, Tryz.ntmps10
  go_wp2_with fail
  refine HR.out.mono ?_
  rintro e w1 ⟨v1, v2, rfl, q1, q2, hb⟩
  obtain ⟨A1, d1, rfl⟩ := Kd.R_slice q1
  obtain ⟨A2, d2, rfl⟩ := Kd.R_slice q2
  have Q1 := Aside0.mk q1; have Q2 := Aside0.mk q2; have HB1 := Aside0.mk hb; clear q1 q2 hb HR HB
  go_wp2_with fail
  go_loopg [3, 15] (rs.length) (fun kq v3 v15 w' => ∃ i : Int, v15 = .int .i64 i ∧ v3 = .int .i64 (checkTo rs ps i.toNat) ∧ Aside0 (0 ≤ i ∧ i.toNat + kq = rs.length) ∧ Aside0 (Below w1.heap.size w1 w'))
  case atStart => exact ⟨0, rfl, rfl, ⟨by omega, by simp⟩, ⟨Below.refl _ _⟩⟩
  case round =>
    obtain ⟨i, rfl, rfl, HN, HB⟩ := hrel
    cases gk with
    | zero =>
      have b0 : decide (i < (rs.length : Int)) = false := decide_eq_false (by have := HN.out; omega)
      have hn : i.toNat = rs.length := by have := HN.out; omega
      go_wp2_with fail
      go_ret
      exact ⟨by rw [hn]; rfl, below_step HB1.out HB.out⟩
    | succ k1 =>
      have hi : i < (rs.length : Int) := by have := HN.out; omega
      have h0 : 0 ≤ i := HN.out.1
      have b0 : decide (i < (rs.length : Int)) = true := decide_eq_true hi
      have hw : wrap64 (i + 1) = i + 1 := w64 (by omega) (by have := HLN.out.2; omega)
      have hnx : (i + 1).toNat = i.toNat + 1 := by omega
      obtain ⟨ad, A9, c9, A10, c10, rfl, z0, z1, z2, z3, z4, z5, z6, z7, z8, z9, z10, z11, z12, _⟩ := at_Rec (Kd.C_below (Kd.R_reads' Q1.out).2.2 HB.out) i h0 hi
      obtain ⟨ad2, rfl, x0⟩ := Kd.at_int (Kd.C_below (Kd.R_reads' Q2.out).2.2 HB.out) i h0 (by have := HLN.out.1; omega)
      have hi2 : i < (ps.length : Int) := by have := HLN.out.1; omega
      by_cases he : (rd_Rec rs i).1 = 9
      · have b1 : ((rd_Rec rs i).1 == 9) = true := beq_iff_eq.mpr he
        have hst : checkTo rs ps (i.toNat + 1) = ps.getD i.toNat 0 := if_pos he
        clear he
        have x1 := below_cell (below_alloc (Below.refl _ _) (.cells #[.int .i64 (rd_Rec rs i).1, .int .i64 (rd_Rec rs i).2.1, .int .i64 (rd_Rec rs i).2.2.1, .int .i64 (rd_Rec rs i).2.2.2.1, .int .i64 (rd_Rec rs i).2.2.2.2.1, .string (rd_Rec rs i).2.2.2.2.2.1, .string (rd_Rec rs i).2.2.2.2.2.2.1, .string (rd_Rec rs i).2.2.2.2.2.2.2.1, .int .i64 (rd_Rec rs i).2.2.2.2.2.2.2.2.1, .slice A9 (rd_Rec rs i).2.2.2.2.2.2.2.2.2.1.length c9, .slice A10 (rd_Rec rs i).2.2.2.2.2.2.2.2.2.2.1.length c10, .int .i64 (rd_Rec rs i).2.2.2.2.2.2.2.2.2.2.2.1, .int .i64 (rd_Rec rs i).2.2.2.2.2.2.2.2.2.2.2.2] 32)) x0
        go_wp2_with fail
        go_roundg k1
        case measure => omega
        case rel => exact ⟨i + 1, by first | rfl | rw [hw], by rw [hnx, hst]; rfl, ⟨by omega, by have := HN.out; omega⟩, ⟨below_alloc HB.out _⟩⟩
      · have b1 : ((rd_Rec rs i).1 == 9) = false := beq_eq_false_iff_ne.mpr he
        have hst : checkTo rs ps (i.toNat + 1) = checkTo rs ps i.toNat := if_neg he
        clear he
        go_wp2_with fail
        go_roundg k1
        case measure => omega
        case rel => exact ⟨i + 1, by first | rfl | rw [hw], by rw [hnx, hst], ⟨by omega, by have := HN.out; omega⟩, ⟨below_alloc HB.out _⟩⟩
set_option maxHeartbeats 8000000 in
set_option maxRecDepth 100000 in
theorem redo_Leader (L d : Nat) (base sectors run : Int) (all : ByteArray) (dur : Int) (w : World) (hL : IsLog w L d base sectors run all dur) (hs : all.size ≤ 11600) :
    Calls Tryz.prog 9 #[.pointer (some ⟨L, 0, none⟩)] w fun e w' => e = .returned (.tuple #[.int .i64 (leadTo (recsF all).1 (recsF all).1.length).1, .int .i64 (leadTo (recsF all).1 (recsF all).1.length).2]) ∧ Below w.heap.size w w' := by
  have HR := Aside0.mk (log_Records L d base sectors run all dur w hL hs); have HLN := Aside0.mk (recsF_len all hs)
  generalize recsF all = RP at *
  obtain ⟨rs, ps⟩ := RP
  dsimp only at HR HLN ⊢
  have hu32 := Tryz.underlying32; have HB := Aside0.mk (Below.refl w.heap.size w); clear hL hs
  go_enter Tryz.func9, Tryz.ntmps9
  go_wp2_with fail
  refine HR.out.mono ?_
  rintro e w1 ⟨v1, v2, rfl, q1, q2, hb⟩
  obtain ⟨A1, d1, rfl⟩ := Kd.R_slice q1
  obtain ⟨A2, d2, rfl⟩ := Kd.R_slice q2
  have Q1 := Aside0.mk q1; have Q2 := Aside0.mk q2; have HB1 := Aside0.mk hb; clear q1 q2 hb HR HB
  go_wp2_with fail
  go_loopg [4, 5, 17] (rs.length) (fun kq v4 v5 v17 w' => ∃ i : Int, v17 = .int .i64 i ∧ v4 = .int .i64 (leadTo rs i.toNat).1 ∧ v5 = .int .i64 (leadTo rs i.toNat).2 ∧ Aside0 (0 ≤ i ∧ i.toNat + kq = rs.length) ∧ Aside0 (Below w1.heap.size w1 w'))
  case atStart => exact ⟨0, rfl, rfl, rfl, ⟨by omega, by simp⟩, ⟨Below.refl _ _⟩⟩
  case round =>
    obtain ⟨i, rfl, rfl, rfl, HN, HB⟩ := hrel
    cases gk with
    | zero =>
      have b0 : decide (i < (rs.length : Int)) = false := decide_eq_false (by have := HN.out; omega)
      have hn : i.toNat = rs.length := by have := HN.out; omega
      go_wp2_with fail
      go_ret2
      exact ⟨by rw [hn]; rfl, below_step HB1.out HB.out⟩
    | succ k1 =>
      have hi : i < (rs.length : Int) := by have := HN.out; omega
      have h0 : 0 ≤ i := HN.out.1
      have b0 : decide (i < (rs.length : Int)) = true := decide_eq_true hi
      have hw : wrap64 (i + 1) = i + 1 := w64 (by omega) (by have := HLN.out.2; omega)
      have hnx : (i + 1).toNat = i.toNat + 1 := by omega
      obtain ⟨ad, A9, c9, A10, c10, rfl, z0, z1, z2, z3, z4, z5, z6, z7, z8, z9, z10, z11, z12, _⟩ := at_Rec (Kd.C_below (Kd.R_reads' Q1.out).2.2 HB.out) i h0 hi
      by_cases he : (rd_Rec rs i).1 = 10
      · have b1 : ((rd_Rec rs i).1 == 10) = true := beq_iff_eq.mpr he
        have hst : leadTo rs (i.toNat + 1) = ((rs.getD i.toNat zRec).2.2.2.2.2.2.2.2.2.2.2.1, (rs.getD i.toNat zRec).2.2.2.2.2.2.2.2.2.2.2.2) := if_pos he
        clear he
        go_wp2_with fail
        go_region
        go_wp2_with fail
        go_roundg k1
        case measure => omega
        case rel => exact ⟨i + 1, by first | rfl | rw [hw], by rw [hnx, hst]; rfl, by rw [hnx, hst]; rfl, ⟨by omega, by have := HN.out; omega⟩, ⟨below_drew (below_alloc HB.out _)⟩⟩
      · have b1 : ((rd_Rec rs i).1 == 10) = false := beq_eq_false_iff_ne.mpr he
        have hst : leadTo rs (i.toNat + 1) = leadTo rs i.toNat := if_neg he
        clear he
        go_wp2_with fail
        go_roundg k1
        case measure => omega
        case rel => exact ⟨i + 1, by first | rfl | rw [hw], by rw [hnx, hst], by rw [hnx, hst], ⟨by omega, by have := HN.out; omega⟩, ⟨below_alloc HB.out _⟩⟩
end Go.Proofs.YteoebfiacnploaaGreat.HRec
