/- Texts of this proof, put together: SayY, SayZ. They prove no statement. -/
import Derived.Test.YteoebfiacnploaaGreatDoorQSayV
import Derived.Test.YteoebfiacnploaaGreatDoorQG4
namespace Go.Proofs.YteoebfiacnploaaGreatDoor.HRec
open Go.RowKit Go.Proofs.YteoebfiacnploaaGreatDoorW.PrintWords Go.Proofs.YteoebfiacnploaaGreatDoorW.PrintLast Go.Proofs.YteoebfiacnploaaGreatDoorW.PrintMore Go.Proofs.YteoebfiacnploaaGreatDoor.SayPure
set_option linter.unusedVariables false
set_option linter.unusedSimpArgs false
def cleanY (y : RecT) : RecT := cleanR y.1 y.2.1 y.2.2.1 y.2.2.2.1 y.2.2.2.2.1 y.2.2.2.2.2.1 y.2.2.2.2.2.2.1 y.2.2.2.2.2.2.2.1 y.2.2.2.2.2.2.2.2.1 y.2.2.2.2.2.2.2.2.2.1 y.2.2.2.2.2.2.2.2.2.2.1 y.2.2.2.2.2.2.2.2.2.2.2.1 y.2.2.2.2.2.2.2.2.2.2.2.2
/-- The lines of so many records. -/
def logB (rs : List RecT) (ps : List Int) : Nat → ByteArray
  | 0 => ⟨#[]⟩
  | n + 1 => (logB rs ps n ++ lineB (cleanY (rs.getD n zRec)) (ps.getD n 0)) ++ ⟨#[10]⟩
theorem lineY_size (y : RecT) (q : Int) (h : Fit y) : (lineB (cleanY y) q).size ≤ 4000000000 := by
  obtain ⟨_, hk, ho, hn, h9, h10⟩ := h
  have hs := clean_small hk ho hn h9 h10 (rfl : cleanY y = cleanY y)
  generalize cleanY y = c at hs ⊢
  obtain ⟨y0, y1, y2, y3, y4, y5, y6, y7, y8, m9, m10, y11, y12⟩ := c
  exact lineB_size _ _ _ _ _ _ _ _ _ _ _ _ _ _ hs.1 hs.2.1 hs.2.2.1 hs.2.2.2.1 hs.2.2.2.2
theorem logB_size (rs : List RecT) (ps : List Int) (hf : ∀ y ∈ rs, Fit y) : ∀ n, n ≤ rs.length → (logB rs ps n).size ≤ n * 4000000001
  | 0, _ => Nat.le_refl _
  | n + 1, h => by
    have h1 := logB_size rs ps hf n (by omega)
    have hm : rs.getD n zRec ∈ rs := by
      rw [List.getD_eq_getElem?_getD, List.getElem?_eq_getElem (by omega)]
      exact List.getElem_mem _
    have h2 := lineY_size (rs.getD n zRec) (ps.getD n 0) (hf _ hm)
    unfold logB
    rw [app_size, app_size]
    have h3 : (⟨#[10]⟩ : ByteArray).size = 1 := rfl
    omega
theorem rd_mem (rs : List RecT) (i : Int) (h0 : 0 ≤ i) (hi : i < rs.length) : rd_Rec rs i ∈ rs := by
  unfold rd_Rec
  rw [List.getD_eq_getElem?_getD, List.getElem?_eq_getElem (show i.toNat < rs.length by omega)]
  exact List.getElem_mem _
theorem bstep {b : Nat} {w W w2 : World} (hq : b = w.heap.size) (h : Below b w W) (k : Below W.heap.size W w2) : Below b w w2 := by subst hq; exact below_step h k
def say_Log.T6 : Bool × List (List Nat × List Nat) := (true, [([], []), ([], []), ([], []), ([1, 2], [1, 2]), ([3], [3]), ([0, 4], [0, 4]), ([5], [5]), ([6, 5], [6])])
def say_Log.B6 : List Nat := [0, 0, 0, 6, 14, 31, 63, 127]
theorem say_Log.tab6 : rtab .any (opsOf Tryz.f7 6) = say_Log.T6 := by kernel_rfl
theorem say_Log.bits6 : waitsOk say_Log.T6.2 say_Log.B6 = true := by kernel_rfl
set_option maxHeartbeats 16000000 in
set_option maxRecDepth 100000 in
theorem say_Log (L d : Nat) (base sectors run : Int) (all : ByteArray) (dur : Int) (w : World) (hL : IsLog w L d base sectors run all dur) (hs : all.size ≤ 11600) :
    Calls Tryz.prog 7 #[.pointer (some ⟨L, 0, none⟩)] w fun e w' => e = .returned (.string (logB (recsF all).1 (recsF all).2 (recsF all).1.length)) ∧ Below w.heap.size w w' := by
  have HR := Aside0.mk (fun W (h : IsLog W L d base sectors run all dur) => log_Records L d base sectors run all dur W h hs)
  obtain ⟨hft, hln, hll⟩ := recsF_fit all hs
  generalize recsF all = RP at *
  obtain ⟨rs, ps⟩ := RP
  dsimp only at HR hft hln hll ⊢
  have HFT := Aside0.mk hft; have HLP := Aside0.mk hln; have HLN := Aside0.mk hll; have HL := Aside0.mk hL; clear hft hln hll hL hs; have HZ := Aside0.mk (logB_size rs ps HFT.out)
  obtain ⟨b, hb⟩ : ∃ b, b = w.heap.size := ⟨_, rfl⟩
  have HBQ := Aside0.mk hb
  obtain ⟨W1, hW1⟩ : ∃ W1, W1 = w.alloc (.cells #[.pointer none, .slice none 0 0] 59) := ⟨_, rfl⟩
  have HI : Aside0 (Lib.IsBuilder 59 5 b b (Lib.strCells (logB rs ps 0)) W1) := ⟨.inl ⟨Nat.le_refl _, .slice none 0 0, by rw [hW1, hb]; exact blk_new w _, World.ownsRow_nil _ _ _ _, by simp [Value.ownBlock]⟩⟩
  have HB : Aside0 (Below b w W1) := ⟨by rw [hW1, hb]; exact below_alloc (Below.refl _ _) _⟩
  have HL1 : Aside0 (IsLog W1 L d base sectors run all dur) := ⟨by rw [hW1]; exact HL.out.below (below_alloc (Below.refl _ _) _)⟩
  clear HL
  rw [← hb]
  go_enter Tryz.func7, Tryz.ntmps7
  go_upto_region 2 with fail
  rw [← hW1, ← hb]
  clear hW1 hb
  go_wp2_with fail
  refine (HR.out _ HL1.out).mono ?_
  rintro e w1 ⟨v1, v2, rfl, q1, q2, hb⟩
  obtain ⟨A1, d1, rfl⟩ := Kd.R_slice q1
  obtain ⟨A2, d2, rfl⟩ := Kd.R_slice q2
  have Q1 := Aside0.mk q1; have Q2 := Aside0.mk q2; have HI1 := Aside0.mk (builder_below HI.out hb); have HB1 := Aside0.mk (bstep HBQ.out HB.out hb); clear q1 q2 hb HR HB HI HL1
  go_wp2_with fail
  go_loopg [15] (rs.length) (fun kq vi w' => ∃ i : Int, vi = .int .i64 i ∧ Aside0 (0 ≤ i ∧ i.toNat + kq = rs.length) ∧ Aside0 (Lib.IsBuilder 59 5 b b (Lib.strCells (logB rs ps i.toNat)) w') ∧ Aside0 (Kd.R kRec 33 w' W1.heap.size (fun _ => True) (.slice A1 rs.length d1) rs) ∧ Aside0 (Kd.R (Kd.int .i64) 3 w' W1.heap.size (fun _ => True) (.slice A2 ps.length d2) ps) ∧ Aside0 (Below b w w'))
  case atStart => exact ⟨0, rfl, ⟨by omega, by simp⟩, HI1, Q1, Q2, HB1⟩
  case round =>
    clear HI1 Q1 Q2 HB1
    obtain ⟨i, rfl, HN, HI, HR1, HR2, HB⟩ := hrel
    cases gk with
    | zero =>
      have b0 : decide (i < (rs.length : Int)) = false := decide_eq_false (by have := HN.out; omega)
      have hn : i.toNat = rs.length := by have := HN.out; omega
      have HI : Aside0 (Lib.IsBuilder 59 5 b b (Lib.byteCells (logB rs ps rs.length).data.toList) wr) := ⟨by rw [← hn]; exact HI.out⟩
      clear hn
      go_wp2_with fail
      refine (Tryz.Builder_String_any _ _ _ wr HI.out (Nat.le_trans (by rw [HBQ.out]; exact Nat.le_refl _) HB.out.size)).mono ?_
      rintro e w3 ⟨rfl, hb3⟩
      go_wp2_with fail
      go_ret
      exact ⟨rfl, HB.out.trans hb3⟩
    | succ k1 =>
      have hi : i < (rs.length : Int) := by have := HN.out; omega
      have h0 : 0 ≤ i := HN.out.1
      have b0 : decide (i < (rs.length : Int)) = true := decide_eq_true hi
      have hw : wrap64 (i + 1) = i + 1 := w64 (by omega) (by have := HLN.out; omega)
      have hnx : (i + 1).toNat = i.toNat + 1 := by omega
      obtain ⟨ad, A9, c9, A10, c10, rfl, z0, z1, z2, z3, z4, z5, z6, z7, z8, z9, z10, z11, z12, q9, hc9, q10, hc10⟩ := at_Rec (Kd.R_reads' HR1.out).2.2 i h0 hi
      have hi2 : i < (ps.length : Int) := by have := HLP.out; omega
      obtain ⟨ad2, rfl, x0_⟩ := at_int (Kd.R_reads' HR2.out).2.2 i h0 hi2
      have hy : Fit (rd_Rec rs i) := HFT.out _ (rd_mem rs i h0 hi)
      have hst : logB rs ps (i.toNat + 1) = (logB rs ps i.toNat ++ lineB (cleanY (rd_Rec rs i)) (rdOf 0 ps i)) ++ ⟨#[10]⟩ := rfl
      generalize rdOf 0 ps i = pq at x0_ hst
      generalize rd_Rec rs i = y at *
      obtain ⟨y0, y1, y2, y3, y4, y5, y6, y7, y8, m9, m10, y11, y12⟩ := y
      dsimp only [cleanY] at z0 z1 z2 z3 z4 z5 z6 z7 z8 z9 z10 z11 z12 q9 hc9 q10 hc10 hst
      have HST1 := Aside0.mk hst; have HY := Aside0.mk hy; have Q9 := Aside0.mk q9; have Q10 := Aside0.mk q10; have HC9 := Aside0.mk hc9; have HC10 := Aside0.mk hc10; clear hst hy q9 hc9 q10 hc10; have HTL := Aside0.mk (lineY_size _ pq HY.out)
      dsimp only [cleanY] at HTL
      have HREC := Aside0.mk (fun (V0 : World) (h9 : Kd.C k144 V0 A9 m9.length m9) (h10 : Kd.C k36 V0 A10 m10.length m10) (V : World) (hv : Below V0.heap.size V0 V) => say_Record y0 y1 y2 y3 y4 y5 y6 y7 y8 A9 c9 m9 A10 c10 m10 y11 y12 pq V (Kd.C_below h9 hv) HC9.out (Kd.C_below h10 hv) HC10.out HY.out.2.1 HY.out.2.2.1 HY.out.2.2.2.1 HY.out.2.2.2.2.1 HY.out.2.2.2.2.2)
      generalize lineB (cleanR y0 y1 y2 y3 y4 y5 y6 y7 y8 m9 m10 y11 y12) pq = tl at HTL HREC HST1
      have HLEN : Aside0 ((Lib.strCells (logB rs ps i.toNat)).length + (tl ++ ⟨#[10]⟩).size ≤ 140737488355328) := ⟨by rw [Lib.strCells_length, app_size, show (⟨#[10]⟩ : ByteArray).size = 1 from rfl]; have := HTL.out; have := HZ.out i.toNat (by omega); have := HLN.out; omega⟩
      go_upto_region 6 with fail
      have RY5 := Aside0.mk (blk_new wr (.cells #[.int .i64 y0, .int .i64 y1, .int .i64 y2, .int .i64 y3, .int .i64 y4, .string y5, .string y6, .string y7, .int .i64 y8, .slice A9 m9.length c9, .slice A10 m10.length c10, .int .i64 y11, .int .i64 y12] 33))
      have RY5 : Aside0 (IsRec (wr.alloc (.cells #[.int .i64 y0, .int .i64 y1, .int .i64 y2, .int .i64 y3, .int .i64 y4, .string y5, .string y6, .string y7, .int .i64 y8, .slice A9 m9.length c9, .slice A10 m10.length c10, .int .i64 y11, .int .i64 y12] 33)) wr.heap.size y0 y1 y2 y3 y4 y5 y6 y7 y8 (.slice A9 m9.length c9) (.slice A10 m10.length c10) y11 y12) := ⟨RY5.out⟩
      have ba := below_alloc (Below.refl wr.heap.size wr) (.cells #[.int .i64 y0, .int .i64 y1, .int .i64 y2, .int .i64 y3, .int .i64 y4, .string y5, .string y6, .string y7, .int .i64 y8, .slice A9 m9.length c9, .slice A10 m10.length c10, .int .i64 y11, .int .i64 y12] 33)
      have HI5 := Aside0.mk (builder_below HI.out ba); have HR15 := Aside0.mk (Kd.R_below HR1.out ba); have HR25 := Aside0.mk (Kd.R_below HR2.out ba); have HB5 := Aside0.mk (bstep HBQ.out HB.out ba); have Q95 := Aside0.mk (Kd.C_below Q9.out ba); have Q105 := Aside0.mk (Kd.C_below Q10.out ba); have f1_0 := Aside0.mk (below_cell ba x0_); clear ba x0_ HI HR1 HR2 HB Q9 Q10 z0 z1 z2 z3 z4 z5 z6 z7 z8 z9 z10 z11 z12
      generalize wr.alloc (.cells #[.int .i64 y0, .int .i64 y1, .int .i64 y2, .int .i64 y3, .int .i64 y4, .string y5, .string y6, .string y7, .int .i64 y8, .slice A9 m9.length c9, .slice A10 m10.length c10, .int .i64 y11, .int .i64 y12] 33) = W5 at RY5 HI5 HR15 HR25 HB5 Q95 Q105 f1_0 ⊢
      generalize wr.heap.size = g at RY5 ⊢
      refine start_ (n := 8) (S := fun w' => Below W5.drew.heap.size W5.drew w') (ds := [7]) #[false, false, false, false, false, false, false, false] (by kernel_rfl) rfl rfl (Below.refl _ _) (fun hHeld => ?_); refine with_tabW say_Log.tab6 say_Log.bits6 (fun HT_ HW_ => ?_)
      refine ord_ [0, 1, 2, 3, 4, 5, 6, 7] ?_
      have RY := Aside0.mk (IsRec.drew RY5.out); have HI := Aside0.mk (builder_drew HI5.out); have HR1 := Aside0.mk (Kd.R_drew HR15.out); have HR2 := Aside0.mk (Kd.R_drew HR25.out); have HB0 := Aside0.mk (below_drew HB5.out); have Q9 := Aside0.mk (show Kd.C k144 W5.drew _ _ _ from Q95.out); have Q10 := Aside0.mk (show Kd.C k36 W5.drew _ _ _ from Q105.out)
      have f1_ := Aside0.mk (show W5.drew.cell? _ = _ from f1_0.out)
      clear RY5 HI5 HR15 HR25 HB5 Q95 Q105 f1_0
      generalize W5.drew = V0 at RY HI HR1 HR2 HB0 Q9 Q10 f1_ hHeld ⊢
      have u0 : (9223372036854775807 < tl.size + 1) = False := eq_false (Nat.not_lt.2 (by have := HTL.out; omega))
      iterate 5
        first
        | refine ordP (v := ?_) (a' := ?_) HT_ rfl rfl (by kernel_rfl) (fun _ _ _ h => h) (.inl ⟨by rfl, ?_⟩) ?_ ?_
          rotate_left
          · intro w'
            go_simp
            with_reducible rfl
          rotate_left
          · simp only [Act.put, List.setIfInBounds_toArray, List.set_cons_zero, List.set_cons_succ, i64_w, i32_w]
            rfl
        | refine ordT (v := ?_) (a' := ?_) HT_ HW_ rfl rfl (by kernel_rfl) (fun _ _ _ h => h) (.inl ⟨by rfl, ?_⟩) hHeld ?_ ?_
          rotate_left
          · intro w' hs
            obtain ⟨s0, s1, s2, s3, s4, s5, s6, s7, s8, s9, s10, s11, s12, _⟩ := IsRec.all13 (IsRec.below RY.out hs)
            have f1_x := below_cell hs f1_.out
            go_simp
            with_reducible rfl
          rotate_left
          · simp only [Act.put, List.setIfInBounds_toArray, List.set_cons_zero, List.set_cons_succ, i64_w, i32_w]
            rfl
      refine ord1 (N := some 25) HT_ rfl rfl (by kernel_rfl) (by decide) (fun K hK => ?_)
      refine goes_ Tryz.func20 (by kernel_rfl) rfl #[.agg #[.int .i64 y0, .int .i64 y1, .int .i64 y2, .int .i64 y3, .int .i64 y4, .string y5, .string y6, .string y7, .int .i64 y8, .slice A9 m9.length c9, .slice A10 m10.length c10, .int .i64 y11, .int .i64 y12], .int .i64 pq] (by rfl) rfl rfl (by (try simp only [List.map_toArray, List.map_cons, List.map_nil]); rfl) ?_
      refine (HREC.out V0 Q9.out Q10.out _ hHeld).mono ?_
      rintro e V1 ⟨rfl, hb⟩
      refine ⟨_, rfl, ?_⟩
      have HI := Aside0.mk (builder_below HI.out hb); have HR1 := Aside0.mk (Kd.R_below HR1.out hb); have HR2 := Aside0.mk (Kd.R_below HR2.out hb)
      refine hK.out _ _ (below_step hHeld hb) (fun hHeld2 => ?_)
      clear hK K hb hHeld HREC; have hHeld := hHeld2; clear hHeld2
      refine ordN (a' := ?_) ?_ ?_
      rotate_left
      · simp only [Act.put, List.setIfInBounds_toArray, List.set_cons_zero, List.set_cons_succ]
        rfl
      refine ordP (v := ?_) (a' := ?_) HT_ rfl rfl (by kernel_rfl) (fun _ _ _ h => h) (.inl ⟨by rfl, ?_⟩) ?_ ?_
      rotate_left
      · intro w'
        go_simp
        with_reducible rfl
      rotate_left
      · simp only [Act.put, List.setIfInBounds_toArray, List.set_cons_zero, List.set_cons_succ, i64_w, i32_w]
        rfl
      refine ordL (N := some 27) HT_ rfl rfl (by kernel_rfl) (by decide) (fun K hK => ?_)
      have HB1 := Aside0.mk (bstep HBQ.out HB0.out hHeld)
      refine goes_ Tryz.func19 (by kernel_rfl) rfl #[.pointer (some ⟨b, 0, none⟩), .string (tl ++ ⟨#[10]⟩)] (by rfl) rfl rfl (by (try simp only [List.map_toArray, List.map_cons, List.map_nil]); rfl) ?_
      have AA := writeString b b _ (tl ++ ⟨#[10]⟩) V1 HI.out HLEN.out (by have := HB1.out.size; have := HBQ.out; omega)
      refine AA.mono ?_
      clear AA
      rintro e V2 ⟨⟨v, rfl⟩, hi3, hb, hk⟩
      refine ⟨_, rfl, ?_⟩
      have HI := Aside0.mk hi3; have HR1 := Aside0.mk (R_keepT HR1.out hk (by decide)); have HR2 := Aside0.mk (R_keepT HR2.out hk (by decide)); have HB := Aside0.mk (HB1.out.trans hb)
      refine hK.out _ _ ?_
      clear hK K hb hk hi3 hHeld HB0 HB1
      refine ordN (a' := ?_) ?_ ?_
      rotate_left
      · simp only [Act.put, List.setIfInBounds_toArray, List.set_cons_zero, List.set_cons_succ]
        rfl
      refine ordD HT_ (by kernel_rfl) ?_
      clear HT_ HW_ u0 RY Q9 Q10 f1_
      go_wp2_with fail
      go_roundg k1
      case measure => omega
      case rel => exact ⟨i + 1, by first | rfl | rw [hw], ⟨by omega, by have := HN.out; omega⟩, ⟨by rw [hnx, HST1.out, Hook.append_assoc', strCells_append]; exact HI.out⟩, HR1, HR2, HB⟩
end Go.Proofs.YteoebfiacnploaaGreatDoor.HRec
namespace Go.Proofs.YteoebfiacnploaaGreatDoor.HRec
open Go.RowKit Go.Proofs.YteoebfiacnploaaGreatDoorW.PrintWords Go.Proofs.YteoebfiacnploaaGreatDoorW.PrintLast Go.Proofs.YteoebfiacnploaaGreatDoorW.PrintMore Go.Proofs.YteoebfiacnploaaGreatDoor.SayPure
set_option linter.unusedVariables false
set_option linter.unusedSimpArgs false
/-- Eleven numbers as cells. -/
def arrC (t : Nat → Int) : Array Value := #[.int .i64 (t 0), .int .i64 (t 1), .int .i64 (t 2), .int .i64 (t 3), .int .i64 (t 4), .int .i64 (t 5), .int .i64 (t 6), .int .i64 (t 7), .int .i64 (t 8), .int .i64 (t 9), .int .i64 (t 10)]
/-- How many of the first n records are of a kind. -/
def cnt (rs : List RecT) : Nat → Nat → Int
  | 0, _ => 0
  | n + 1, j => if j = (rs.getD n zRec).1.toNat then cnt rs n j + 1 else cnt rs n j
theorem cnt_le (rs : List RecT) : ∀ n j, 0 ≤ cnt rs n j ∧ cnt rs n j ≤ n
  | 0, _ => ⟨Int.le_refl _, Int.le_refl _⟩
  | n + 1, j => by
    have := cnt_le rs n j
    unfold cnt
    split <;> omega
def IsArr (W : World) (g : Nat) (t : Nat → Int) : Prop := W.heap[g]? = some (.cells (arrC t) 28 (0, 0))
theorem IsArr.get {W : World} {g : Nat} {t : Nat → Int} (h : IsArr W g t) (k : Nat) (hk : k < 11) : W.cell? ⟨g, k, none⟩ = some (.int .i64 (t k)) := by
  refine (blk_cell h k).trans ?_
  unfold arrC
  match k, hk with
  | 0, _ => rfl | 1, _ => rfl | 2, _ => rfl | 3, _ => rfl | 4, _ => rfl | 5, _ => rfl | 6, _ => rfl | 7, _ => rfl | 8, _ => rfl | 9, _ => rfl | 10, _ => rfl
theorem IsArr.set {W : World} {g : Nat} {t : Nat → Int} (h : IsArr W g t) (k : Nat) (hk : k < 11) (v : Int) : IsArr (W.setCell ⟨g, k, none⟩ (.int .i64 v)) g (fun j => if j = k then v else t j) := by
  unfold IsArr at h ⊢
  have e : (W.setCell ⟨g, k, none⟩ (.int .i64 v)).heap[g]? = some (.cells ((arrC t).setIfInBounds k (.int .i64 v)) 28 (0, 0)) := by
    simp [World.setCell, Array.getElem?_modify, h]
  rw [e]
  congr 2
  unfold arrC
  match k, hk with
  | 0, _ => rfl | 1, _ => rfl | 2, _ => rfl | 3, _ => rfl | 4, _ => rfl | 5, _ => rfl | 6, _ => rfl | 7, _ => rfl | 8, _ => rfl | 9, _ => rfl | 10, _ => rfl
theorem IsArr.all {W : World} {g : Nat} {t : Nat → Int} (h : IsArr W g t) : W.cell? ⟨g, 0, none⟩ = some (.int .i64 (t 0)) ∧ W.frozen? ⟨g, 0, none⟩ = false ∧ W.cell? ⟨g, 1, none⟩ = some (.int .i64 (t 1)) ∧ W.frozen? ⟨g, 1, none⟩ = false ∧ W.cell? ⟨g, 2, none⟩ = some (.int .i64 (t 2)) ∧ W.frozen? ⟨g, 2, none⟩ = false ∧ W.cell? ⟨g, 3, none⟩ = some (.int .i64 (t 3)) ∧ W.frozen? ⟨g, 3, none⟩ = false ∧ W.cell? ⟨g, 4, none⟩ = some (.int .i64 (t 4)) ∧ W.frozen? ⟨g, 4, none⟩ = false ∧ W.cell? ⟨g, 5, none⟩ = some (.int .i64 (t 5)) ∧ W.frozen? ⟨g, 5, none⟩ = false ∧ W.cell? ⟨g, 6, none⟩ = some (.int .i64 (t 6)) ∧ W.frozen? ⟨g, 6, none⟩ = false ∧ W.cell? ⟨g, 7, none⟩ = some (.int .i64 (t 7)) ∧ W.frozen? ⟨g, 7, none⟩ = false ∧ W.cell? ⟨g, 8, none⟩ = some (.int .i64 (t 8)) ∧ W.frozen? ⟨g, 8, none⟩ = false ∧ W.cell? ⟨g, 9, none⟩ = some (.int .i64 (t 9)) ∧ W.frozen? ⟨g, 9, none⟩ = false ∧ W.cell? ⟨g, 10, none⟩ = some (.int .i64 (t 10)) ∧ W.frozen? ⟨g, 10, none⟩ = false :=
  ⟨IsArr.get h 0 (by omega), Lib.frozen_of_heap h 0, IsArr.get h 1 (by omega), Lib.frozen_of_heap h 1, IsArr.get h 2 (by omega), Lib.frozen_of_heap h 2, IsArr.get h 3 (by omega), Lib.frozen_of_heap h 3, IsArr.get h 4 (by omega), Lib.frozen_of_heap h 4, IsArr.get h 5 (by omega), Lib.frozen_of_heap h 5, IsArr.get h 6 (by omega), Lib.frozen_of_heap h 6, IsArr.get h 7 (by omega), Lib.frozen_of_heap h 7, IsArr.get h 8 (by omega), Lib.frozen_of_heap h 8, IsArr.get h 9 (by omega), Lib.frozen_of_heap h 9, IsArr.get h 10 (by omega), Lib.frozen_of_heap h 10⟩
theorem blk_set {W : World} {g ty : Nat} {c : Array Value} {fz : Nat × Nat} (h : W.heap[g]? = some (.cells c ty fz)) (k : Nat) (v : Value) : (W.setCell ⟨g, k, none⟩ v).heap[g]? = some (.cells (c.setIfInBounds k v) ty fz) := by
  simp [World.setCell, Array.getElem?_modify, h]
theorem IsArr.sets {W : World} {g : Nat} {s : Nat → Int} (h : IsArr W g s) (t : Nat → Int) : IsArr (((((((((((W.setCell ⟨g, 0, none⟩ (.int .i64 (t 0))).setCell ⟨g, 1, none⟩ (.int .i64 (t 1))).setCell ⟨g, 2, none⟩ (.int .i64 (t 2))).setCell ⟨g, 3, none⟩ (.int .i64 (t 3))).setCell ⟨g, 4, none⟩ (.int .i64 (t 4))).setCell ⟨g, 5, none⟩ (.int .i64 (t 5))).setCell ⟨g, 6, none⟩ (.int .i64 (t 6))).setCell ⟨g, 7, none⟩ (.int .i64 (t 7))).setCell ⟨g, 8, none⟩ (.int .i64 (t 8))).setCell ⟨g, 9, none⟩ (.int .i64 (t 9))).setCell ⟨g, 10, none⟩ (.int .i64 (t 10))) g t := by
  unfold IsArr at h ⊢
  have h1 := blk_set h 0 (.int .i64 (t 0)); have h2 := blk_set h1 1 (.int .i64 (t 1)); have h3 := blk_set h2 2 (.int .i64 (t 2)); have h4 := blk_set h3 3 (.int .i64 (t 3)); have h5 := blk_set h4 4 (.int .i64 (t 4)); have h6 := blk_set h5 5 (.int .i64 (t 5)); have h7 := blk_set h6 6 (.int .i64 (t 6)); have h8 := blk_set h7 7 (.int .i64 (t 7)); have h9 := blk_set h8 8 (.int .i64 (t 8)); have h10 := blk_set h9 9 (.int .i64 (t 9)); have h11 := blk_set h10 10 (.int .i64 (t 10))
  exact h11.trans (congrArg (fun c => some (Obj.cells c 28 (0, 0))) (by unfold arrC; simp only [List.setIfInBounds_toArray, List.set_cons_zero, List.set_cons_succ]))
theorem below11 {B g : Nat} {w W : World} (h : Below B w W) (hg : B ≤ g) (t : Nat → Int) : Below B w (((((((((((W.setCell ⟨g, 0, none⟩ (.int .i64 (t 0))).setCell ⟨g, 1, none⟩ (.int .i64 (t 1))).setCell ⟨g, 2, none⟩ (.int .i64 (t 2))).setCell ⟨g, 3, none⟩ (.int .i64 (t 3))).setCell ⟨g, 4, none⟩ (.int .i64 (t 4))).setCell ⟨g, 5, none⟩ (.int .i64 (t 5))).setCell ⟨g, 6, none⟩ (.int .i64 (t 6))).setCell ⟨g, 7, none⟩ (.int .i64 (t 7))).setCell ⟨g, 8, none⟩ (.int .i64 (t 8))).setCell ⟨g, 9, none⟩ (.int .i64 (t 9))).setCell ⟨g, 10, none⟩ (.int .i64 (t 10))) := (Below.setCell (p := ⟨g, 10, none⟩) (Below.setCell (p := ⟨g, 9, none⟩) (Below.setCell (p := ⟨g, 8, none⟩) (Below.setCell (p := ⟨g, 7, none⟩) (Below.setCell (p := ⟨g, 6, none⟩) (Below.setCell (p := ⟨g, 5, none⟩) (Below.setCell (p := ⟨g, 4, none⟩) (Below.setCell (p := ⟨g, 3, none⟩) (Below.setCell (p := ⟨g, 2, none⟩) (Below.setCell (p := ⟨g, 1, none⟩) (Below.setCell (p := ⟨g, 0, none⟩) h hg _) hg _) hg _) hg _) hg _) hg _) hg _) hg _) hg _) hg _) hg _)
theorem IsArr.below {W W1 : World} {g : Nat} {t : Nat → Int} (h : IsArr W g t) (hb : Below W.heap.size W W1) : IsArr W1 g t := (hb.block g (blk_lt h)).trans h
set_option maxHeartbeats 16000000 in
set_option maxRecDepth 100000 in
theorem say_Tally (L d : Nat) (base sectors run : Int) (all : ByteArray) (dur : Int) (w : World) (hL : IsLog w L d base sectors run all dur) (hs : all.size ≤ 11600) :
    Calls Tryz.prog 8 #[.pointer (some ⟨L, 0, none⟩)] w fun e w' => e = .returned (.agg (arrC (cnt (recsF all).1 (recsF all).1.length))) ∧ Below w.heap.size w w' := by
  have HR := Aside0.mk (fun W (h : IsLog W L d base sectors run all dur) => log_Records L d base sectors run all dur W h hs)
  obtain ⟨hft, hln, hll⟩ := recsF_fit all hs
  generalize recsF all = RP at *
  obtain ⟨rs, ps⟩ := RP
  dsimp only at HR hft hln hll ⊢
  have HFT := Aside0.mk hft; have HLP := Aside0.mk hln; have HLN := Aside0.mk hll; have HL := Aside0.mk hL; clear hft hln hll hL hs
  obtain ⟨g2, hg2⟩ : ∃ g2, g2 = w.heap.size := ⟨_, rfl⟩
  obtain ⟨W0, hW0⟩ : ∃ W0, W0 = w.alloc (.cells #[.int .i64 0, .int .i64 0, .int .i64 0, .int .i64 0, .int .i64 0, .int .i64 0, .int .i64 0, .int .i64 0, .int .i64 0, .int .i64 0, .int .i64 0] 28) := ⟨_, rfl⟩
  obtain ⟨g3, hg3⟩ : ∃ g3, g3 = w.heap.size + 1 := ⟨_, rfl⟩
  have hsz : g3 = W0.heap.size := by rw [hg3, hW0]; simp
  obtain ⟨W1, hW1⟩ : ∃ W1, W1 = W0.alloc (.cells #[.int .i64 0, .int .i64 0, .int .i64 0, .int .i64 0, .int .i64 0, .int .i64 0, .int .i64 0, .int .i64 0, .int .i64 0, .int .i64 0, .int .i64 0] 28) := ⟨_, rfl⟩
  have hb1 : Below w.heap.size w W0 := by rw [hW0]; exact below_alloc (Below.refl _ _) _
  have hb2 : Below W0.heap.size W0 W1 := by rw [hW1]; exact below_alloc (Below.refl _ _) _
  have ha2 : IsArr W0 g2 (cnt rs 0) := by rw [hW0, hg2]; exact blk_new w _
  have ha3 : IsArr W1 g3 (cnt rs 0) := by rw [hW1, hsz]; exact blk_new W0 _
  have HA2 := Aside0.mk (IsArr.below ha2 hb2); have HA3 := Aside0.mk ha3; have HB := Aside0.mk (below_step hb1 hb2); have HL1 := Aside0.mk ((HL.out.below hb1).below hb2)
  have HG : Aside0 (g2 ≠ g3 ∧ w.heap.size ≤ g2 ∧ w.heap.size ≤ g3) := ⟨by have := hb1.size; have := blk_lt ha2; omega⟩
  clear hb1 hb2 ha2 ha3 HL hsz
  go_enter Tryz.func8, Tryz.ntmps8
  go_upto_region 2 with fail
  rw [← hg3, ← hW0, ← hg2, ← hW1]
  clear hW0 hg3 hg2 hW1
  go_wp2_with fail
  refine (HR.out _ HL1.out).mono ?_
  rintro e w1 ⟨v1, v2, rfl, q1, q2, hb⟩
  obtain ⟨A1, d1, rfl⟩ := Kd.R_slice q1
  have Q1 := Aside0.mk q1; have HA21 := Aside0.mk (HA2.out.below hb); have HA31 := Aside0.mk (HA3.out.below hb); have HB1 := Aside0.mk (below_step HB.out hb); clear q1 q2 hb HR HB HA2 HA3 HL1
  go_wp2_with fail
  go_loopg [15] (rs.length) (fun kq vi w' => ∃ i : Int, vi = .int .i64 i ∧ Aside0 (0 ≤ i ∧ i.toNat + kq = rs.length) ∧ Aside0 (IsArr w' g3 (cnt rs i.toNat)) ∧ Aside0 (IsArr w' g2 (cnt rs 0)) ∧ Aside0 (Kd.R kRec 33 w' W1.heap.size (fun _ => True) (.slice A1 rs.length d1) rs) ∧ Aside0 (Below w.heap.size w w'))
  case atStart => exact ⟨0, rfl, ⟨by omega, by simp⟩, HA31, HA21, Q1, HB1⟩
  case round =>
    clear HA31 HA21 Q1 HB1
    obtain ⟨i, rfl, HN, HA3, HA2, HR1, HB⟩ := hrel
    cases gk with
    | zero =>
      have b0 : decide (i < (rs.length : Int)) = false := decide_eq_false (by have := HN.out; omega)
      have hn : i.toNat = rs.length := by have := HN.out; omega
      rw [hn] at HA3
      clear hn
      obtain ⟨t, ht⟩ : ∃ t, t = cnt rs rs.length := ⟨_, rfl⟩
      rw [← ht] at HA3
      have TQ := Aside0.mk ht; clear ht
      go_upto_region 8 with fail
      obtain ⟨c0, f0, c1, f1, c2, f2, c3, f3, c4, f4, c5, f5, c6, f6, c7, f7, c8, f8, c9, f9, c10, f10⟩ := IsArr.all HA3.out
      obtain ⟨d0, e0, d1, e1, d2, e2, d3, e3, d4, e4, d5, e5, d6, e6, d7, e7, d8, e8, d9, e9, d10, e10⟩ := IsArr.all HA2.out
      go_wp2_with fail
      refine bodyPost_ret (v := .agg (arrC t)) (results_cell_row rfl _ _ g2 28 (arrC t) (0, 0) _ rfl (IsArr.sets HA2.out t) Tryz.underlying28 rfl (by kernel_rfl)) rfl ⟨?_, below11 HB.out HG.out.2.1 t⟩
      rw [TQ.out]
    | succ k1 =>
      have hi : i < (rs.length : Int) := by have := HN.out; omega
      have h0 : 0 ≤ i := HN.out.1
      have b0 : decide (i < (rs.length : Int)) = true := decide_eq_true hi
      have hw : wrap64 (i + 1) = i + 1 := w64 (by omega) (by have := HLN.out; omega)
      have hnx : (i + 1).toNat = i.toNat + 1 := by omega
      obtain ⟨ad, A9, c9, A10, c10, rfl, z0, z1, z2, z3, z4, z5, z6, z7, z8, z9, z10, z11, z12, q9, hc9, q10, hc10⟩ := at_Rec (Kd.R_reads' HR1.out).2.2 i h0 hi
      have hy : Fit (rd_Rec rs i) := HFT.out _ (rd_mem rs i h0 hi)
      have HYE := Aside0.mk (show (rs.getD i.toNat zRec).1 = (rd_Rec rs i).1 from rfl)
      generalize rd_Rec rs i = y at *
      obtain ⟨y0, y1, y2, y3, y4, y5, y6, y7, y8, m9, m10, y11, y12⟩ := y
      dsimp only [cleanY] at z0 z1 z2 z3 z4 z5 z6 z7 z8 z9 z10 z11 z12 q9 hc9 q10 hc10
      dsimp only at HYE
      have HY := Aside0.mk hy; have Q9 := Aside0.mk q9; have Q10 := Aside0.mk q10; have HC9 := Aside0.mk hc9; have HC10 := Aside0.mk hc10; clear hy q9 hc9 q10 hc10
      have hy0 : 0 ≤ y0 := by have := HY.out.1.1; omega
      have hy1 : y0 < 11 := by have := HY.out.1.2; omega
      go_upto_region 6 with fail
      have ba := below_alloc (Below.refl wr.heap.size wr) (.cells #[.int .i64 y0, .int .i64 y1, .int .i64 y2, .int .i64 y3, .int .i64 y4, .string y5, .string y6, .string y7, .int .i64 y8, .slice A9 m9.length c9, .slice A10 m10.length c10, .int .i64 y11, .int .i64 y12] 33)
      have hA3 := IsArr.below HA3.out ba; have HA25 := Aside0.mk (IsArr.below HA2.out ba); have HR15 := Aside0.mk (Kd.R_below HR1.out ba); have HB5 := Aside0.mk (below_step HB.out ba)
      have f0_ : (wr.alloc (.cells #[.int .i64 y0, .int .i64 y1, .int .i64 y2, .int .i64 y3, .int .i64 y4, .string y5, .string y6, .string y7, .int .i64 y8, .slice A9 m9.length c9, .slice A10 m10.length c10, .int .i64 y11, .int .i64 y12] 33)).cell? ⟨wr.heap.size, 0, none⟩ = some (.int .i64 y0) := (blk_cell (blk_new wr (.cells #[.int .i64 y0, .int .i64 y1, .int .i64 y2, .int .i64 y3, .int .i64 y4, .string y5, .string y6, .string y7, .int .i64 y8, .slice A9 m9.length c9, .slice A10 m10.length c10, .int .i64 y11, .int .i64 y12] 33)) 0).trans rfl
      clear ba HA3 HA2 HR1 HB Q9 Q10 HC9 HC10 z0 z1 z2 z3 z4 z5 z6 z7 z8 z9 z10 z11 z12
      generalize wr.alloc (.cells #[.int .i64 y0, .int .i64 y1, .int .i64 y2, .int .i64 y3, .int .i64 y4, .string y5, .string y6, .string y7, .int .i64 y8, .slice A9 m9.length c9, .slice A10 m10.length c10, .int .i64 y11, .int .i64 y12] 33) = W5 at hA3 HA25 HR15 HB5 f0_ ⊢
      generalize wr.heap.size = g at f0_ ⊢
      have HA35 := Aside0.mk hA3
      have hk : y0.toNat < 11 := by omega
      have fa_ := IsArr.get hA3 y0.toNat hk
      have fz_ : W5.frozen? ⟨g3, y0.toNat, none⟩ = false := Lib.frozen_of_heap hA3 y0.toNat
      have HCN := Aside0.mk (cnt_le rs i.toNat y0.toNat)
      have hwc : wrap64 (cnt rs i.toNat y0.toNat + 1) = cnt rs i.toNat y0.toNat + 1 := w64 (by have := HCN.out; omega) (by have := HCN.out; have := HLN.out; omega)
      have HX := Aside0.mk (IsArr.set hA3 y0.toNat hk (cnt rs i.toNat y0.toNat + 1))
      have HST1 : Aside0 (cnt rs (i.toNat + 1) = fun j => if j = y0.toNat then cnt rs i.toNat y0.toNat + 1 else cnt rs i.toNat j) := ⟨by
        funext j
        show (if j = (rs.getD i.toNat zRec).1.toNat then cnt rs i.toNat j + 1 else cnt rs i.toNat j) = _
        rw [HYE.out]
        by_cases hj : j = y0.toNat
        · rw [if_pos hj, if_pos hj, hj]
        · rw [if_neg hj, if_neg hj]⟩
      clear hA3 hk
      generalize cnt rs i.toNat y0.toNat = cv at fa_ hwc HX HST1
      go_wp2_with fail
      go_roundg k1
      case measure => omega
      case rel => exact ⟨i + 1, by first | rfl | rw [hw], ⟨by omega, by have := HN.out; omega⟩, ⟨by rw [hnx, HST1.out]; exact HX.out⟩, ⟨(Below.heap_setCell _ _ _ _ HG.out.1).trans HA25.out⟩, ⟨Kd.R_set HR15.out HA35.out (by decide) _ _⟩, ⟨HB5.out.setCell (p := ⟨g3, y0.toNat, none⟩) HG.out.2.2 _⟩⟩
end Go.Proofs.YteoebfiacnploaaGreatDoor.HRec
