/- The contract of say.Record: a record's line. It proves no statement. -/
import Derived.Test.YteoebfiacnploaaGreatDoorQG16
namespace Go.Proofs.YteoebfiacnploaaGreatDoor.HRec
open Go.RowKit Go.Proofs.YteoebfiacnploaaGreatDoorW.PrintWords Go.Proofs.YteoebfiacnploaaGreatDoorW.PrintLast Go.Proofs.YteoebfiacnploaaGreatDoorW.PrintMore Go.Proofs.YteoebfiacnploaaGreatDoor.SayPure
set_option linter.unusedVariables false
set_option linter.unusedSimpArgs false
def say_rec.T2 : Bool × List (List Nat × List Nat) := (true, [([], []), ([0], [0]), ([], []), ([2], [2]), ([3, 1], [3]), ([1, 4], [1, 4]), ([5, 4, 0, 1, 2, 3, 4, 5], [5])])
def say_rec.B2 : List Nat := [0, 1, 0, 4, 15, 31, 63]
theorem say_rec.tab2 : rtab .any (opsOf Tryz.f20 2) = say_rec.T2 := by kernel_rfl
theorem say_rec.bits2 : waitsOk say_rec.T2.2 say_rec.B2 = true := by kernel_rfl
def say_rec.T4 : Bool × List (List Nat × List Nat) := (true, [([], []), ([], []), ([1], [1]), ([2], [2]), ([], []), ([4], [4]), ([5, 3], [5]), ([3, 6], [3, 6]), ([0, 7, 6], [0, 7]), ([8, 8, 0, 1, 2, 3, 4, 5, 6, 7, 8], [0, 8])])
def say_rec.B4 : List Nat := [0, 0, 2, 6, 0, 16, 62, 126, 255, 511]
theorem say_rec.tab4 : rtab .any (opsOf Tryz.f20 4) = say_rec.T4 := by kernel_rfl
theorem say_rec.bits4 : waitsOk say_rec.T4.2 say_rec.B4 = true := by kernel_rfl
def say_rec.T18 : Bool × List (List Nat × List Nat) := (true, [([], []), ([], []), ([1], [1]), ([2], [2]), ([], []), ([4], [4]), ([5, 3], [5]), ([3, 6], [3, 6]), ([0, 7, 6], [0, 7]), ([8, 8, 0, 1, 2, 3, 4, 5, 6, 7, 8], [0, 8])])
def say_rec.B18 : List Nat := [0, 0, 2, 6, 0, 16, 62, 126, 255, 511]
theorem say_rec.tab18 : rtab .any (opsOf Tryz.f20 18) = say_rec.T18 := by kernel_rfl
theorem say_rec.bits18 : waitsOk say_rec.T18.2 say_rec.B18 = true := by kernel_rfl
def say_rec.T24 : Bool × List (List Nat × List Nat) := (true, [([], []), ([], []), ([1], [1]), ([2], [2]), ([], []), ([4], [4]), ([5, 3], [5]), ([3, 6], [3, 6]), ([0, 7, 6], [0, 7]), ([8, 8, 0, 1, 2, 3, 4, 5, 6, 7, 8], [0, 8])])
def say_rec.B24 : List Nat := [0, 0, 2, 6, 0, 16, 62, 126, 255, 511]
theorem say_rec.tab24 : rtab .any (opsOf Tryz.f20 24) = say_rec.T24 := by kernel_rfl
theorem say_rec.bits24 : waitsOk say_rec.T24.2 say_rec.B24 = true := by kernel_rfl
def say_rec.T27 : Bool × List (List Nat × List Nat) := (true, [([], []), ([], []), ([1], [1]), ([2], [2]), ([], []), ([4], [4]), ([5, 3], [5]), ([3, 6], [3, 6]), ([0, 7, 6], [0, 7]), ([8, 8, 0, 1, 2, 3, 4, 5, 6, 7, 8], [0, 8])])
def say_rec.B27 : List Nat := [0, 0, 2, 6, 0, 16, 62, 126, 255, 511]
theorem say_rec.tab27 : rtab .any (opsOf Tryz.f20 27) = say_rec.T27 := by kernel_rfl
theorem say_rec.bits27 : waitsOk say_rec.T27.2 say_rec.B27 = true := by kernel_rfl
set_option maxHeartbeats 16000000 in
set_option maxRecDepth 100000 in
theorem say_Record (x0 x1 x2 x3 x4 : Int) (k o n : ByteArray) (x8 : Int) (A9 : Option Addr) (c9 : Nat) (l9 : List S144) (A10 : Option Addr) (c10 : Nat) (l10 : List S36) (x11 x12 q : Int) (w : World) (hr9 : Kd.C k144 w A9 l9.length l9) (hc9 : l9.length ≤ c9) (hr10 : Kd.C k36 w A10 l10.length l10) (hc10 : l10.length ≤ c10) (hk : k.size ≤ 1000000) (ho : o.size ≤ 1000000) (hn : n.size ≤ 1000000) (h9 : l9.length ≤ 300) (h10 : l10.length ≤ 300) :
    Calls Tryz.prog 20 #[.agg #[.int .i64 x0, .int .i64 x1, .int .i64 x2, .int .i64 x3, .int .i64 x4, .string k, .string o, .string n, .int .i64 x8, .slice A9 l9.length c9, .slice A10 l10.length c10, .int .i64 x11, .int .i64 x12], .int .i64 q] w fun e w' => e = .returned (.string (lineB (cleanR x0 x1 x2 x3 x4 k o n x8 l9 l10 x11 x12) q)) ∧ Below w.heap.size w w' := by
  obtain ⟨W1, hW1⟩ : ∃ W1, W1 = w.alloc (.cells #[.int .i64 x0, .int .i64 x1, .int .i64 x2, .int .i64 x3, .int .i64 x4, .string k, .string o, .string n, .int .i64 x8, .slice A9 l9.length c9, .slice A10 l10.length c10, .int .i64 x11, .int .i64 x12] 33) := ⟨_, rfl⟩
  have RR : Aside0 (IsRec W1 w.heap.size x0 x1 x2 x3 x4 k o n x8 (.slice A9 l9.length c9) (.slice A10 l10.length c10) x11 x12) := ⟨by rw [hW1]; exact blk_new w _⟩
  have BB : Aside0 (Below w.heap.size w W1) := ⟨by rw [hW1]; exact below_alloc (Below.refl _ _) _⟩
  have HC := Aside0.mk (rec_Clean_at w x0 x1 x2 x3 x4 k o n x8 A9 c9 l9 A10 c10 l10 x11 x12 W1 hr9 hc9 hr10 hc10)
  obtain ⟨y, hy⟩ : ∃ y, cleanR x0 x1 x2 x3 x4 k o n x8 l9 l10 x11 x12 = y := ⟨_, rfl⟩
  have HS := Aside0.mk (clean_small hk ho hn h9 h10 hy); have HR := Aside0.mk (clean_rows hy)
  rw [hy] at HC ⊢
  obtain ⟨T, hT⟩ : ∃ T, T = lineB y q := ⟨_, rfl⟩
  rw [← hT]
  have TT := Aside0.mk hT
  obtain ⟨g, hg⟩ : ∃ g, g = w.heap.size := ⟨_, rfl⟩
  have GG := Aside0.mk hg
  rw [← hg] at RR
  clear hk ho hn h9 h10 hr9 hc9 hr10 hc10 hy hT
  go_enter Tryz.func20, Tryz.ntmps20
  go_upto_region 1 with fail
  rw [← hW1, ← hg]
  clear hW1 hg
  obtain ⟨z0, z1, z2, z3, z4, z5, z6, z7, z8, z9, z10, z11, z12, z13, z14, z15, z16, z17, z18, z19, z20, z21, z22, z23, z24, z25⟩ := IsRec.all13 RR.out
  go_wp2_with fail
  refine HC.out.mono ?_
  clear z0 z1 z2 z3 z4 z5 z6 z7 z8 z9 z10 z11 z12 z13 z14 z15 z16 z17 z18 z19 z20 z21 z22 z23 z24 z25 HC
  rintro e w2 ⟨v, rfl, ⟨B9, d9, B10, d10, rfl, q9, p9, q10, p10⟩, hb⟩
  have R2 := IsRec.below RR.out hb; have B2 := below_step BB.out hb; clear hb RR BB
  obtain ⟨z0, z1, z2, z3, z4, z5, z6, z7, z8, z9, z10, z11, z12, z13, z14, z15, z16, z17, z18, z19, z20, z21, z22, z23, z24, z25⟩ := IsRec.all13 R2
  obtain ⟨y0, y1, y2, y3, y4, y5, y6, y7, y8, m9, m10, y11, y12⟩ := y
  dsimp only at q9 p9 q10 p10 HS HR TT ⊢
  have RYA := Aside0.mk (IsRec.sets13 R2 y0 y1 y2 y3 y4 y5 y6 y7 y8 (.slice B9 m9.length d9) (.slice B10 m10.length d10) y11 y12)
  have B3A := Aside0.mk (below13 (v0 := .int .i64 y0) (v1 := .int .i64 y1) (v2 := .int .i64 y2) (v3 := .int .i64 y3) (v4 := .int .i64 y4) (v5 := .string y5) (v6 := .string y6) (v7 := .string y7) (v8 := .int .i64 y8) (v9 := .slice B9 m9.length d9) (v10 := .slice B10 m10.length d10) (v11 := .int .i64 y11) (v12 := .int .i64 y12) B2 (Nat.le_of_eq GG.out.symm))
  have Q9A := Aside0.mk q9; have Q10A := Aside0.mk q10; clear q9 q10 p9 p10 R2 B2
  go_upto_region 2 with fail
  generalize (((((((((((((w2.setCell ⟨g, 0, none⟩ (.int .i64 y0)).setCell ⟨g, 1, none⟩ (.int .i64 y1)).setCell ⟨g, 2, none⟩ (.int .i64 y2)).setCell ⟨g, 3, none⟩ (.int .i64 y3)).setCell ⟨g, 4, none⟩ (.int .i64 y4)).setCell ⟨g, 5, none⟩ (.string y5)).setCell ⟨g, 6, none⟩ (.string y6)).setCell ⟨g, 7, none⟩ (.string y7)).setCell ⟨g, 8, none⟩ (.int .i64 y8)).setCell ⟨g, 9, none⟩ (.slice B9 m9.length d9)).setCell ⟨g, 10, none⟩ (.slice B10 m10.length d10)).setCell ⟨g, 11, none⟩ (.int .i64 y11)).setCell ⟨g, 12, none⟩ (.int .i64 y12)) = W3 at RYA B3A ⊢
  have RY : Aside0 (IsRec W3 g y0 y1 y2 y3 y4 y5 y6 y7 y8 (.slice B9 m9.length d9) (.slice B10 m10.length d10) y11 y12) := ⟨RYA.out⟩
  have B3 : Aside0 (Below w.heap.size w W3) := ⟨B3A.out⟩
  have Q9 := Aside0.mk (Kd.C_below Q9A.out B3.out); have Q10 := Aside0.mk (Kd.C_below Q10A.out B3.out); have HB := Aside0.mk (Below.refl W3.heap.size W3); clear RYA B3A Q9A Q10A z0 z1 z2 z3 z4 z5 z6 z7 z8 z9 z10 z11 z12 z13 z14 z15 z16 z17 z18 z19 z20 z21 z22 z23 z24 z25
  refine start_ (n := 7) (S := fun w' => Below W3.heap.size W3 w') (ds := []) #[false, false, false, false, false, false, false] (by kernel_rfl) rfl rfl (below_drew HB.out) (fun hHeld => ?_); refine with_tabW say_rec.tab2 say_rec.bits2 (fun HT_ HW_ => ?_)
  refine ord_ [0, 2, 3, 1, 4, 5, 6] ?_
  clear HB
  generalize W3.drew = U0 at hHeld ⊢
  iterate 3
    first
    | refine ordP (v := ?_) (a' := ?_) HT_ rfl rfl (by kernel_rfl) (fun _ _ _ h => h) (.inl ⟨by rfl, ?_⟩) ?_ ?_
      rotate_left
      · intro w'
        go_simp
        with_reducible rfl
      rotate_left
      · simp only [Act.put, List.setIfInBounds_toArray, List.set_cons_zero, List.set_cons_succ, i64_w, i32_w]
        rfl
    | refine ordT (v := ?_) (a' := ?_) HT_ HW_ rfl rfl (by kernel_rfl) (fun _ _ _ h => h) (.inl ⟨by rfl, ?_⟩) hHeld ?_ ?_
      rotate_left
      · intro w' hs
        obtain ⟨s0, s1, s2, s3, s4, s5, s6, s7, s8, s9, s10, s11, s12, _⟩ := IsRec.all13 (IsRec.below RY.out hs)
        go_simp
        with_reducible rfl
      rotate_left
      · simp only [Act.put, List.setIfInBounds_toArray, List.set_cons_zero, List.set_cons_succ, i64_w, i32_w]
        rfl
  refine ord1 (N := some 13) HT_ rfl rfl (by kernel_rfl) (by decide) (fun K hK => ?_)
  refine goes_ Tryz.func35 (by kernel_rfl) rfl #[.int .i64 q] (by rfl) rfl rfl (by (try simp only [List.map_toArray, List.map_cons, List.map_nil]); rfl) ?_
  refine (say_num q U0).mono ?_
  rintro e U1 ⟨rfl, hb⟩
  refine ⟨_, rfl, ?_⟩
  refine hK.out _ _ (below_step hHeld hb) (fun hHeld2 => ?_)
  clear hK K hb hHeld; have hHeld := hHeld2; clear hHeld2
  refine ordN (a' := ?_) ?_ ?_
  rotate_left
  · simp only [Act.put, List.setIfInBounds_toArray, List.set_cons_zero, List.set_cons_succ]
    rfl
  refine ord1 (N := some 16) HT_ rfl rfl (by kernel_rfl) (by decide) (fun K hK => ?_)
  refine goes_ Tryz.func36 (by kernel_rfl) rfl #[.int .i64 y0] (by rfl) rfl rfl (by (try simp only [List.map_toArray, List.map_cons, List.map_nil]); rfl) ?_
  refine (say_name y0 U1).mono ?_
  rintro e U2 ⟨rfl, hb⟩
  refine ⟨_, rfl, ?_⟩
  refine hK.out _ _ (below_step hHeld hb) (fun hHeld2 => ?_)
  clear hK K hb hHeld; have hHeld := hHeld2; clear hHeld2
  refine ordN (a' := ?_) ?_ ?_
  rotate_left
  · simp only [Act.put, List.setIfInBounds_toArray, List.set_cons_zero, List.set_cons_succ]
    rfl
  refine ord1 (N := some 17) HT_ rfl rfl (by kernel_rfl) (by decide) (fun K hK => ?_)
  with_reducible refine lit_step (w0 := W3) (N := some 17) ?hg ?hd (n := 17) rfl (xs := ([(lowB q), (nameB y0)] : List ByteArray)) (inner := [.string (lowB q), .string (nameB y0)]) ?hr ?hp hHeld ?hm ?_
  case hd => rfl
  case hg => rfl
  case hr => first | (go_simp; done) | (go_simp; rfl)
  case hp => exact Reps.one (show Kd.M Kd.string _ _ _ (lowB q) [.string (lowB q)] from rfl) (Reps.one (show Kd.M Kd.string _ _ _ (nameB y0) [.string (nameB y0)] from rfl) (Reps.none _ _))
  case hm => simp
  intro v17 U3 ho hb
  have HO := Aside0.mk ho
  refine hK.out _ _ hb (fun hHeld2 => ?_)
  clear hK K hb ho hHeld; have hHeld := hHeld2; clear hHeld2
  refine ordN (a' := ?_) ?_ ?_
  rotate_left
  · simp only [Act.put, List.setIfInBounds_toArray, List.set_cons_zero, List.set_cons_succ]
    rfl
  refine ordP (v := ?_) (a' := ?_) HT_ rfl rfl (by kernel_rfl) (fun _ _ _ h => h) (.inl ⟨by rfl, ?_⟩) ?_ ?_
  rotate_left
  · intro w'
    go_simp
    with_reducible rfl
  rotate_left
  · simp only [Act.put, List.setIfInBounds_toArray, List.set_cons_zero, List.set_cons_succ, i64_w, i32_w]
    rfl
  refine ordD HT_ (by kernel_rfl) ?_
  have HB := Aside0.mk hHeld; clear hHeld HT_ HW_ 
  obtain ⟨z0, z1, z2, z3, z4, z5, z6, z7, z8, z9, z10, z11, z12, z13, z14, z15, z16, z17, z18, z19, z20, z21, z22, z23, z24, z25⟩ := IsRec.all13 (IsRec.below RY.out HB.out)
  go_upto_if 20 with fail
  clear z0 z1 z2 z3 z4 z5 z6 z7 z8 z9 z10 z11 z12 z13 z14 z15 z16 z17 z18 z19 z20 z21 z22 z23 z24 z25
  go_cut [5] (fun v5 wc => ∃ v : Value, v = v5 ∧ Aside0 (Kd.R Kd.string 9 wc W3.heap.size (fun _ => True) v ([lowB q, nameB y0] ++ wT y1 y2)) ∧ Aside0 (Below W3.heap.size W3 wc))
  case first =>
    obtain ⟨z0, z1, z2, z3, z4, z5, z6, z7, z8, z9, z10, z11, z12, z13, z14, z15, z16, z17, z18, z19, z20, z21, z22, z23, z24, z25⟩ := IsRec.all13 (IsRec.below RY.out HB.out)
    by_cases c : 0 < y1
    · have b0 : decide (0 < y1) = true := decide_eq_true c
      rw [b0]
      have E1 : Aside0 (wT y1 y2 = [⟨#[116, 120, 110]⟩, (lowB y1), ⟨#[112, 114, 101, 118]⟩, (lowB y2)]) := ⟨if_pos c⟩
      clear c
      go_upto_region 4 with fail
      clear z0 z1 z2 z3 z4 z5 z6 z7 z8 z9 z10 z11 z12 z13 z14 z15 z16 z17 z18 z19 z20 z21 z22 z23 z24 z25
      refine start_ (n := 10) (S := fun w' => Below W3.heap.size W3 w') (ds := []) #[false, false, false, false, false, false, false, false, false, false] (by kernel_rfl) rfl rfl (below_drew HB.out) (fun hHeld => ?_); refine with_tabW say_rec.tab4 say_rec.bits4 (fun HT_ HW_ => ?_)
      refine ord_ [0, 1, 2, 4, 5, 3, 6, 7, 8, 9] ?_
      have HO := Aside0.mk (Kd.R_drew HO.out); clear HB
      generalize U3.drew = V0 at hHeld HO ⊢
      iterate 5
        first
        | refine ordP (v := ?_) (a' := ?_) HT_ rfl rfl (by kernel_rfl) (fun _ _ _ h => h) (.inl ⟨by rfl, ?_⟩) ?_ ?_
          rotate_left
          · intro w'
            go_simp
            with_reducible rfl
          rotate_left
          · simp only [Act.put, List.setIfInBounds_toArray, List.set_cons_zero, List.set_cons_succ, i64_w, i32_w]
            rfl
        | refine ordT (v := ?_) (a' := ?_) HT_ HW_ rfl rfl (by kernel_rfl) (fun _ _ _ h => h) (.inl ⟨by rfl, ?_⟩) hHeld ?_ ?_
          rotate_left
          · intro w' hs
            obtain ⟨s0, s1, s2, s3, s4, s5, s6, s7, s8, s9, s10, s11, s12, _⟩ := IsRec.all13 (IsRec.below RY.out hs)
            go_simp
            with_reducible rfl
          rotate_left
          · simp only [Act.put, List.setIfInBounds_toArray, List.set_cons_zero, List.set_cons_succ, i64_w, i32_w]
            rfl
      refine ord1 (N := some 24) HT_ rfl rfl (by kernel_rfl) (by decide) (fun K hK => ?_)
      refine goes_ Tryz.func35 (by kernel_rfl) rfl #[.int .i64 y1] (by rfl) rfl rfl (by (try simp only [List.map_toArray, List.map_cons, List.map_nil]); rfl) ?_
      refine (say_num y1 V0).mono ?_
      rintro e V1 ⟨rfl, hb⟩
      refine ⟨_, rfl, ?_⟩
      have HO := Aside0.mk (Kd.R_below HO.out hb)
      refine hK.out _ _ (below_step hHeld hb) (fun hHeld2 => ?_)
      clear hK K hb hHeld; have hHeld := hHeld2; clear hHeld2
      refine ordN (a' := ?_) ?_ ?_
      rotate_left
      · simp only [Act.put, List.setIfInBounds_toArray, List.set_cons_zero, List.set_cons_succ]
        rfl
      refine ord1 (N := some 27) HT_ rfl rfl (by kernel_rfl) (by decide) (fun K hK => ?_)
      refine goes_ Tryz.func35 (by kernel_rfl) rfl #[.int .i64 y2] (by rfl) rfl rfl (by (try simp only [List.map_toArray, List.map_cons, List.map_nil]); rfl) ?_
      refine (say_num y2 V1).mono ?_
      rintro e V2 ⟨rfl, hb⟩
      refine ⟨_, rfl, ?_⟩
      have HO := Aside0.mk (Kd.R_below HO.out hb)
      refine hK.out _ _ (below_step hHeld hb) (fun hHeld2 => ?_)
      clear hK K hb hHeld; have hHeld := hHeld2; clear hHeld2
      refine ordN (a' := ?_) ?_ ?_
      rotate_left
      · simp only [Act.put, List.setIfInBounds_toArray, List.set_cons_zero, List.set_cons_succ]
        rfl
      refine ord1 (N := some 28) HT_ rfl rfl (by kernel_rfl) (by decide) (fun K hK => ?_)
      with_reducible refine val_step (N := some 28) (.slice (some ⟨V2.heap.size, 0, none⟩) 4 4) (w1 := (V2.alloc (.cells #[.string ⟨#[116, 120, 110]⟩, .string (lowB y1), .string ⟨#[112, 114, 101, 118]⟩, .string (lowB y2)] 9))) ?hw ?hd ?hr ?_
      case hw => rfl
      case hd => rfl
      case hr => first | (go_simp; done) | (go_simp; rfl)
      have HC : Aside0 (Kd.C Kd.string (V2.alloc (.cells #[.string ⟨#[116, 120, 110]⟩, .string (lowB y1), .string ⟨#[112, 114, 101, 118]⟩, .string (lowB y2)] 9)) (some ⟨V2.heap.size, 0, none⟩) 4 [⟨#[116, 120, 110]⟩, (lowB y1), ⟨#[112, 114, 101, 118]⟩, (lowB y2)]) := ⟨strs_new V2 9 [⟨#[116, 120, 110]⟩, (lowB y1), ⟨#[112, 114, 101, 118]⟩, (lowB y2)] (by simp)⟩
      have HO := Aside0.mk (Kd.R_alloc HO.out (.cells #[.string ⟨#[116, 120, 110]⟩, .string (lowB y1), .string ⟨#[112, 114, 101, 118]⟩, .string (lowB y2)] 9))
      refine hK.out _ _ (below_alloc hHeld _) (fun hHeld2 => ?_)
      clear hK K hHeld; have hHeld := hHeld2; clear hHeld2
      refine ordN (a' := ?_) ?_ ?_
      rotate_left
      · simp only [Act.put, List.setIfInBounds_toArray, List.set_cons_zero, List.set_cons_succ]
        rfl
      refine ord1 (N := some 29) HT_ rfl rfl (by kernel_rfl) (by decide) (fun K hK => ?_)
      with_reducible refine words_step (w0 := W3) (N := some 29) ?hw ?hd (.tmp 21) (.tmp 28) ?ao v17 [lowB q, nameB y0] [⟨#[116, 120, 110]⟩, (lowB y1), ⟨#[112, 114, 101, 118]⟩, (lowB y2)] _ 4 4 ?hs ?hx HO.out HC.out hHeld ?aL ?_
      case hw => rfl
      case hd => rfl
      case ao => rfl
      case hs => rfl
      case hx => rfl
      case aL => simp
      intro v29 V4 ho hb
      have HO := Aside0.mk ho
      refine hK.out _ _ hb (fun hHeld2 => ?_)
      clear hK K hb ho hHeld HC; have hHeld := hHeld2; clear hHeld2
      refine ordN (a' := ?_) ?_ ?_
      rotate_left
      · simp only [Act.put, List.setIfInBounds_toArray, List.set_cons_zero, List.set_cons_succ]
        rfl
      refine ordP (v := ?_) (a' := ?_) HT_ rfl rfl (by kernel_rfl) (fun _ _ _ h => h) (.inl ⟨by rfl, ?_⟩) ?_ ?_
      rotate_left
      · intro w'
        go_simp
        with_reducible rfl
      rotate_left
      · simp only [Act.put, List.setIfInBounds_toArray, List.set_cons_zero, List.set_cons_succ, i64_w, i32_w]
        rfl
      refine ordD HT_ (by kernel_rfl) ?_
      have HB := Aside0.mk hHeld; clear hHeld HT_ HW_ 
      go_wp2_with fail
      go_meet
      case rel => exact ⟨_, rfl, ⟨by rw [E1.out]; exact HO.out⟩, HB⟩
    · have b0 : decide (0 < y1) = false := decide_eq_false c
      rw [b0]
      have E1 : Aside0 (wT y1 y2 = []) := ⟨if_neg c⟩
      clear c
      go_wp2_with fail
      go_meet
      case rel => exact ⟨_, rfl, ⟨by rw [E1.out]; exact HO.out⟩, HB⟩
  case rest =>
    clear HO HB
    obtain ⟨vr, rfl, HO, HB⟩ := hcut
    obtain ⟨ws, hws⟩ : ∃ ws, ws = [lowB q, nameB y0] ++ wT y1 y2 := ⟨_, rfl⟩
    obtain ⟨sw, hsw⟩ : ∃ sw, sw = wI m9 ++ (wA m10 ++ (wCk y0 y3 y5 y6 y7 ++ (wU y0 y3 y4 y8 y5 y6 y7 ++ wE y0 y11 y12))) := ⟨_, rfl⟩
    have hf := line_f y0 y1 y2 y3 y4 y5 y6 y7 y8 m9 m10 y11 y12 q HS.out.1 HS.out.2.1 HS.out.2.2.1 HS.out.2.2.2.1 HS.out.2.2.2.2
    rw [← hws, ← hsw, ← TT.out] at hf
    have HF := Aside0.mk hf
    have HLW : Aside0 (ws.length ≤ 6) := ⟨by rw [hws]; unfold wT; split <;> simp⟩
    have hO : Kd.R Kd.string 9 wc W3.heap.size (fun _ => True) vr ws := by rw [hws]; exact HO.out
    clear HO; have HO := Aside0.mk hO; clear hO; have SW := Aside0.mk hsw; clear hf hws hsw
    obtain ⟨z0, z1, z2, z3, z4, z5, z6, z7, z8, z9, z10, z11, z12, z13, z14, z15, z16, z17, z18, z19, z20, z21, z22, z23, z24, z25⟩ := IsRec.all13 (IsRec.below RY.out HB.out)
    go_upto_block 0 with fail
    clear z0 z1 z2 z3 z4 z5 z6 z7 z8 z9 z10 z11 z12 z13 z14 z15 z16 z17 z18 z19 z20 z21 z22 z23 z24 z25
    go_cut [5] (fun v5 wc => ∃ v : Value, v = v5 ∧ Aside0 (Kd.R Kd.string 9 wc W3.heap.size (fun _ => True) v (ws ++ sw)) ∧ Aside0 (Below W3.heap.size W3 wc))
    case first =>
      obtain ⟨z0, z1, z2, z3, z4, z5, z6, z7, z8, z9, z10, z11, z12, z13, z14, z15, z16, z17, z18, z19, z20, z21, z22, z23, z24, z25⟩ := IsRec.all13 (IsRec.below RY.out HB.out)
      rcases (show (y0 = 1 ∨ y0 = 2) ∨ (y0 = 3 ∨ y0 = 4 ∨ y0 = 5) ∨ y0 = 6 ∨ y0 = 9 ∨ y0 = 10 ∨ (y0 < 1 ∨ y0 = 7 ∨ y0 = 8 ∨ 10 < y0) by omega) with hk | hk | hk | hk | hk | hk
      · have e10 : m10 = [] := HR.out.2.2.resolve_left (by omega)
        obtain ⟨ps, hps⟩ : ∃ ps, ps = m9.map S144.f0 := ⟨_, rfl⟩
        have EW : Aside0 (sw = ps.map lowB) := ⟨by rw [SW.out, e10, hps]; unfold wI wCk wU wE; rw [if_neg (by omega), if_neg (by omega), if_neg (by omega)]; simp [wA]⟩
        have HLP : Aside0 (ps.length ≤ 300) := ⟨by rw [hps, List.length_map]; exact HS.out.2.2.2.1⟩
        have HPG := Aside0.mk (fun w hw => rec_Pages y0 y1 y2 y3 y4 y5 y6 y7 y8 B9 d9 m9 B10 m10.length d10 y11 y12 w hw HS.out.2.2.2.1 hk)
        rw [← hps] at HPG
        clear e10 hps
        rcases hk with rfl | rfl
        all_goals
          go_wp2_with fail
          refine (HPG.out _ (Kd.C_below Q9.out HB.out)).mono ?_
          rintro e w5 ⟨pv, rfl, hp, hb⟩
          obtain ⟨inner, hown⟩ := Kd.R_own HO.out
          obtain ⟨PA, pc, rfl, _, _⟩ := Kd.R_reads hp
          have HP5 : Aside0 (Kd.R (Kd.int .i64) 3 w5 0 (fun k => some k ≠ vr.ownBlock) (.slice PA ps.length pc) ps) := ⟨Kd.R_lower (Kd.R_mono (Kd.R_new hp hown) (fun _ h => h.2)) (Nat.zero_le _)⟩
          have HO5 := Aside0.mk (Kd.R_below HO.out hb); have HB5 := Aside0.mk (below_step HB.out hb); clear hp hb hown inner HPG HO HB z0 z1 z2 z3 z4 z5 z6 z7 z8 z9 z10 z11 z12 z13 z14 z15 z16 z17 z18 z19 z20 z21 z22 z23 z24 z25
          go_wp2_with fail
          go_loopg [5, 38] (ps.length) (fun kq v5 v38 w' => ∃ (i : Int) (v : Value), v38 = .int .i64 i ∧ v = v5 ∧ Aside0 (0 ≤ i ∧ i.toNat + kq = ps.length) ∧ Aside0 (Kd.R Kd.string 9 w' W3.heap.size (fun _ => True) v (ws ++ (ps.take i.toNat).map lowB)) ∧ Aside0 (Kd.R (Kd.int .i64) 3 w' 0 (fun k => some k ≠ v.ownBlock) (.slice PA ps.length pc) ps) ∧ Aside0 (Below W3.heap.size W3 w'))
          case atStart => exact ⟨0, _, rfl, rfl, ⟨by omega, by simp⟩, ⟨by rw [show (ps.take (0 : Int).toNat).map lowB = [] from rfl, List.append_nil]; exact HO5.out⟩, HP5, HB5⟩
          case round =>
            clear HO5 HP5 HB5
            obtain ⟨i, v, rfl, rfl, HN, HO, HP, HB⟩ := hrel
            cases gk with
            | zero =>
              have b0 : decide (i < (ps.length : Int)) = false := decide_eq_false (by have := HN.out; omega)
              have HO : Aside0 (Kd.R Kd.string 9 wr W3.heap.size (fun _ => True) v (ws ++ sw)) := ⟨by have h := HO.out; rw [List.take_of_length_le (by have := HN.out; omega), ← EW.out] at h; exact h⟩
              clear HN HP
              go_wp2_with fail
              go_meet
              case rel => exact ⟨_, rfl, HO, HB⟩
            | succ k1 =>
              have hi : i < (ps.length : Int) := by have := HN.out; omega
              have h0 : 0 ≤ i := HN.out.1
              have b0 : decide (i < (ps.length : Int)) = true := decide_eq_true hi
              have hw : wrap64 (i + 1) = i + 1 := w64 (by omega) (by have := HLP.out; omega)
              have hnx : (i + 1).toNat = i.toNat + 1 := by omega
              obtain ⟨ad, rfl, x0_⟩ := at_int (Kd.R_reads' HP.out).2.2 i h0 hi
              have HX := Aside0.mk (pages_take ps i h0 hi)
              have HL : Aside0 ((ws ++ (ps.take i.toNat).map lowB).length ≤ 310) := ⟨by rw [List.length_append, List.length_map, List.length_take]; have := HLP.out; have := HLW.out; omega⟩
              have HX : Aside0 (ws ++ (ps.take (i + 1).toNat).map lowB = (ws ++ (ps.take i.toNat).map lowB) ++ [lowB (rdOf 0 ps i)]) := ⟨by rw [HX.out, List.append_assoc]⟩
              generalize ws ++ (ps.take i.toNat).map lowB = xs at HO HX HL
              generalize rdOf 0 ps i = pg at x0_ HX
              go_wp2_with fail
              refine (say_num pg _).mono ?_
              rintro e w6 ⟨rfl, hb⟩
              have HO6 := Aside0.mk (Kd.R_below HO.out hb); have HP6 := Aside0.mk (Kd.R_below HP.out hb); have HB6 := Aside0.mk (below_step HB.out hb); clear hb HO HP HB x0_
              go_wp2_with ((with_reducible refine gate_builtin (b := .append) (xs := #[.tmp 42, .tmp 45]) rfl ?_); at_builtin; refine words_opP (w0 := W3) rfl (.tmp 42) (.tmp 45) rfl v xs [lowB pg] _ 1 1 rfl rfl (.slice (some ad) ps.length pc) ps ?aO ?aP ?aR ?aB ?aL ?_; (case aO => exact Kd.R_alloc HO6.out _); (case aP => exact Kd.R_alloc HP6.out _); (case aR => exact strs_new _ _ [lowB pg] (by simp)); (case aB => exact below_alloc HB6.out _); (case aL => have := HL.out; omega); intro v1 w7 ho hp hb; have HO7 := Aside0.mk ho; have HP7 := Aside0.mk hp; have HB7 := Aside0.mk hb; clear ho hp hb)
              go_roundg k1
              case measure => omega
              case rel => exact ⟨i + 1, _, by first | rfl | rw [hw], rfl, ⟨by omega, by have := HN.out; omega⟩, ⟨by rw [HX.out]; exact HO7.out⟩, HP7, HB7⟩
      · have e9 : m9 = [] := HR.out.2.1.elim (fun h => absurd h (by omega)) (fun h => h.resolve_left (by omega))
        have e10 : m10 = [] := HR.out.2.2.resolve_left (by omega)
        have HT := Aside0.mk (fun w => say_turned y0 y1 y2 y3 y4 y5 y6 y7 y8 B9 m9.length d9 B10 m10.length d10 y11 y12 y0 w HS.out.1 HS.out.2.1 HS.out.2.2.1)
        have EW : Aside0 (sw = wC y3 y5 y6 y7 y0) := ⟨by rw [SW.out, e9, e10]; unfold wI wA wCk wU wE; rw [if_pos (by omega), if_neg (by omega), if_neg (by omega)]; simp⟩
        have HL := Aside0.mk (wC_len y3 y5 y6 y7 y0); clear e9 e10
        generalize wC y3 y5 y6 y7 y0 = tw at HT EW HL
        rcases hk with rfl | rfl | rfl
        all_goals
          go_wp2_with fail
          refine (HT.out _).mono ?_
          rintro e w5 ⟨tv, rfl, ht, hb⟩
          obtain ⟨TA, tc, rfl, _, htc⟩ := Kd.R_reads ht
          have TC := Aside0.mk htc; have HO5 := Aside0.mk (Kd.R_below HO.out hb); have HB5 := Aside0.mk (below_step HB.out hb); clear ht hb htc HT z0 z1 z2 z3 z4 z5 z6 z7 z8 z9 z10 z11 z12 z13 z14 z15 z16 z17 z18 z19 z20 z21 z22 z23 z24 z25
          go_wp2_with ((with_reducible refine gate_builtin (b := .append) (xs := #[.tmp 52, .tmp 56]) rfl ?_); at_builtin; refine words_op (w0 := W3) rfl (.tmp 52) (.tmp 56) rfl vr ws tw TA tw.length tc rfl rfl ?aO ?aR ?aB ?aL ?_; (case aR => exact TC.out); (case aO => exact HO5.out); (case aB => exact HB5.out); (case aL => have h1 := HLW.out; have h2 := HL.out; omega); intro v1 w7 ho hb; have HO7 := Aside0.mk ho; have HB7 := Aside0.mk hb; clear ho hb)
          go_meet
          case rel => exact ⟨_, rfl, ⟨by rw [EW.out]; exact HO7.out⟩, HB7⟩
      · have e9 : m9 = [] := HR.out.2.1.elim (fun h => absurd h (by omega)) (fun h => h.resolve_left (by omega))
        have e10 : m10 = [] := HR.out.2.2.resolve_left (by omega)
        have HT := Aside0.mk (fun w => say_turned y0 y1 y2 y3 y4 y5 y6 y7 y8 B9 m9.length d9 B10 m10.length d10 y11 y12 y4 w HS.out.1 HS.out.2.1 HS.out.2.2.1)
        have EW : Aside0 (sw = [⟨#[110, 101, 120, 116]⟩, (lowB y8), (nameB y4)] ++ wC y3 y5 y6 y7 y4) := ⟨by rw [SW.out, e9, e10]; unfold wI wA wCk wU wE; rw [if_neg (by omega), if_pos hk, if_neg (by omega)]; simp⟩
        have HL := Aside0.mk (wC_len y3 y5 y6 y7 y4); clear e9 e10
        generalize wC y3 y5 y6 y7 y4 = tw at HT EW HL
        subst hk
        go_upto_region 18 with fail
        clear z0 z1 z2 z3 z4 z5 z6 z7 z8 z9 z10 z11 z12 z13 z14 z15 z16 z17 z18 z19 z20 z21 z22 z23 z24 z25
        refine start_ (n := 10) (S := fun w' => Below W3.heap.size W3 w') (ds := []) #[false, false, false, false, false, false, false, false, false, false] (by kernel_rfl) rfl rfl (below_drew HB.out) (fun hHeld => ?_); refine with_tabW say_rec.tab18 say_rec.bits18 (fun HT_ HW_ => ?_)
        refine ord_ [0, 1, 2, 4, 5, 3, 6, 7, 8, 9] ?_
        have HO := Aside0.mk (Kd.R_drew HO.out); clear HB
        generalize wc.drew = V0 at hHeld HO ⊢
        iterate 5
          first
          | refine ordP (v := ?_) (a' := ?_) HT_ rfl rfl (by kernel_rfl) (fun _ _ _ h => h) (.inl ⟨by rfl, ?_⟩) ?_ ?_
            rotate_left
            · intro w'
              go_simp
              with_reducible rfl
            rotate_left
            · simp only [Act.put, List.setIfInBounds_toArray, List.set_cons_zero, List.set_cons_succ, i64_w, i32_w]
              rfl
          | refine ordT (v := ?_) (a' := ?_) HT_ HW_ rfl rfl (by kernel_rfl) (fun _ _ _ h => h) (.inl ⟨by rfl, ?_⟩) hHeld ?_ ?_
            rotate_left
            · intro w' hs
              obtain ⟨s0, s1, s2, s3, s4, s5, s6, s7, s8, s9, s10, s11, s12, _⟩ := IsRec.all13 (IsRec.below RY.out hs)
              go_simp
              with_reducible rfl
            rotate_left
            · simp only [Act.put, List.setIfInBounds_toArray, List.set_cons_zero, List.set_cons_succ, i64_w, i32_w]
              rfl
        refine ord1 (N := some 63) HT_ rfl rfl (by kernel_rfl) (by decide) (fun K hK => ?_)
        refine goes_ Tryz.func35 (by kernel_rfl) rfl #[.int .i64 y8] (by rfl) rfl rfl (by (try simp only [List.map_toArray, List.map_cons, List.map_nil]); rfl) ?_
        refine (say_num y8 V0).mono ?_
        rintro e V1 ⟨rfl, hb⟩
        refine ⟨_, rfl, ?_⟩
        have HO := Aside0.mk (Kd.R_below HO.out hb)
        refine hK.out _ _ (below_step hHeld hb) (fun hHeld2 => ?_)
        clear hK K hb hHeld; have hHeld := hHeld2; clear hHeld2
        refine ordN (a' := ?_) ?_ ?_
        rotate_left
        · simp only [Act.put, List.setIfInBounds_toArray, List.set_cons_zero, List.set_cons_succ]
          rfl
        refine ord1 (N := some 66) HT_ rfl rfl (by kernel_rfl) (by decide) (fun K hK => ?_)
        refine goes_ Tryz.func36 (by kernel_rfl) rfl #[.int .i64 y4] (by rfl) rfl rfl (by (try simp only [List.map_toArray, List.map_cons, List.map_nil]); rfl) ?_
        refine (say_name y4 V1).mono ?_
        rintro e V2 ⟨rfl, hb⟩
        refine ⟨_, rfl, ?_⟩
        have HO := Aside0.mk (Kd.R_below HO.out hb)
        refine hK.out _ _ (below_step hHeld hb) (fun hHeld2 => ?_)
        clear hK K hb hHeld; have hHeld := hHeld2; clear hHeld2
        refine ordN (a' := ?_) ?_ ?_
        rotate_left
        · simp only [Act.put, List.setIfInBounds_toArray, List.set_cons_zero, List.set_cons_succ]
          rfl
        refine ord1 (N := some 67) HT_ rfl rfl (by kernel_rfl) (by decide) (fun K hK => ?_)
        with_reducible refine val_step (N := some 67) (.slice (some ⟨V2.heap.size, 0, none⟩) 3 3) (w1 := (V2.alloc (.cells #[.string ⟨#[110, 101, 120, 116]⟩, .string (lowB y8), .string (nameB y4)] 9))) ?hw ?hd ?hr ?_
        case hw => rfl
        case hd => rfl
        case hr => first | (go_simp; done) | (go_simp; rfl)
        have HC : Aside0 (Kd.C Kd.string (V2.alloc (.cells #[.string ⟨#[110, 101, 120, 116]⟩, .string (lowB y8), .string (nameB y4)] 9)) (some ⟨V2.heap.size, 0, none⟩) 3 [⟨#[110, 101, 120, 116]⟩, (lowB y8), (nameB y4)]) := ⟨strs_new V2 9 [⟨#[110, 101, 120, 116]⟩, (lowB y8), (nameB y4)] (by simp)⟩
        have HO := Aside0.mk (Kd.R_alloc HO.out (.cells #[.string ⟨#[110, 101, 120, 116]⟩, .string (lowB y8), .string (nameB y4)] 9))
        refine hK.out _ _ (below_alloc hHeld _) (fun hHeld2 => ?_)
        clear hK K hHeld; have hHeld := hHeld2; clear hHeld2
        refine ordN (a' := ?_) ?_ ?_
        rotate_left
        · simp only [Act.put, List.setIfInBounds_toArray, List.set_cons_zero, List.set_cons_succ]
          rfl
        refine ord1 (N := some 68) HT_ rfl rfl (by kernel_rfl) (by decide) (fun K hK => ?_)
        with_reducible refine words_step (w0 := W3) (N := some 68) ?hw ?hd (.tmp 60) (.tmp 67) ?ao vr ws [⟨#[110, 101, 120, 116]⟩, (lowB y8), (nameB y4)] _ 3 3 ?hs ?hx HO.out HC.out hHeld ?aL ?_
        case hw => rfl
        case hd => rfl
        case ao => rfl
        case hs => rfl
        case hx => rfl
        case aL => have := HLW.out; omega
        intro v68 V4 ho hb
        have HO := Aside0.mk ho
        refine hK.out _ _ hb (fun hHeld2 => ?_)
        clear hK K hb ho hHeld HC; have hHeld := hHeld2; clear hHeld2
        refine ordN (a' := ?_) ?_ ?_
        rotate_left
        · simp only [Act.put, List.setIfInBounds_toArray, List.set_cons_zero, List.set_cons_succ]
          rfl
        refine ordP (v := ?_) (a' := ?_) HT_ rfl rfl (by kernel_rfl) (fun _ _ _ h => h) (.inl ⟨by rfl, ?_⟩) ?_ ?_
        rotate_left
        · intro w'
          go_simp
          with_reducible rfl
        rotate_left
        · simp only [Act.put, List.setIfInBounds_toArray, List.set_cons_zero, List.set_cons_succ, i64_w, i32_w]
          rfl
        refine ordD HT_ (by kernel_rfl) ?_
        have HB := Aside0.mk hHeld; clear hHeld HT_ HW_ 
        obtain ⟨z0, z1, z2, z3, z4, z5, z6, z7, z8, z9, z10, z11, z12, z13, z14, z15, z16, z17, z18, z19, z20, z21, z22, z23, z24, z25⟩ := IsRec.all13 (IsRec.below RY.out HB.out)
        go_wp2_with fail
        refine (HT.out _).mono ?_
        rintro e w5 ⟨tv, rfl, ht, hb⟩
        obtain ⟨TA, tc, rfl, _, htc⟩ := Kd.R_reads ht
        have TC := Aside0.mk htc; have HO5 := Aside0.mk (Kd.R_below HO.out hb); have HB5 := Aside0.mk (below_step HB.out hb); clear ht hb htc HT z0 z1 z2 z3 z4 z5 z6 z7 z8 z9 z10 z11 z12 z13 z14 z15 z16 z17 z18 z19 z20 z21 z22 z23 z24 z25
        go_wp2_with ((with_reducible refine gate_builtin (b := .append) (xs := #[.tmp 69, .tmp 73]) rfl ?_); at_builtin; refine words_op (w0 := W3) rfl (.tmp 69) (.tmp 73) rfl v68 (ws ++ [⟨#[110, 101, 120, 116]⟩, (lowB y8), (nameB y4)]) tw TA tw.length tc rfl rfl ?aO ?aR ?aB ?aL ?_; (case aR => exact TC.out); (case aO => exact HO5.out); (case aB => exact HB5.out); (case aL => have h1 := HLW.out; have h2 := HL.out; simp only [List.length_append, List.length_cons, List.length_nil]; omega); intro v1 w7 ho hb; have HO7 := Aside0.mk ho; have HB7 := Aside0.mk hb; clear ho hb)
        go_meet
        case rel => exact ⟨_, rfl, ⟨by rw [EW.out, ← List.append_assoc]; exact HO7.out⟩, HB7⟩
      · have e9 : m9 = [] := HR.out.2.1.elim (fun h => absurd h (by omega)) (fun h => h.resolve_left (by omega))
        have EW : Aside0 (sw = wA m10) := ⟨by rw [SW.out, e9]; unfold wI wCk wU wE; rw [if_neg (by omega), if_neg (by omega), if_neg (by omega)]; simp⟩
        clear e9
        subst hk
        go_wp2_with fail
        clear z0 z1 z2 z3 z4 z5 z6 z7 z8 z9 z10 z11 z12 z13 z14 z15 z16 z17 z18 z19 z20 z21 z22 z23 z24 z25
        go_loopg [5, 80] (m10.length) (fun kq v5 v80 w' => ∃ (i : Int) (v : Value), v80 = .int .i64 i ∧ v = v5 ∧ Aside0 (0 ≤ i ∧ i.toNat + kq = m10.length) ∧ Aside0 (Kd.R Kd.string 9 w' W3.heap.size (fun _ => True) v (ws ++ wA (m10.take i.toNat))) ∧ Aside0 (Below W3.heap.size W3 w'))
        case atStart => exact ⟨0, _, rfl, rfl, ⟨by omega, by simp⟩, ⟨by rw [show wA (m10.take (0 : Int).toNat) = [] from rfl, List.append_nil]; exact HO.out⟩, HB⟩
        case round =>
          clear HO HB
          obtain ⟨i, v, rfl, rfl, HN, HO, HB⟩ := hrel
          cases gk with
          | zero =>
            have b0 : decide (i < (m10.length : Int)) = false := decide_eq_false (by have := HN.out; omega)
            have HO : Aside0 (Kd.R Kd.string 9 wr W3.heap.size (fun _ => True) v (ws ++ sw)) := ⟨by have h := HO.out; rw [List.take_of_length_le (by have := HN.out; omega), ← EW.out] at h; exact h⟩
            clear HN
            go_wp2_with fail
            go_meet
            case rel => exact ⟨_, rfl, HO, HB⟩
          | succ k1 =>
            have hi : i < (m10.length : Int) := by have := HN.out; omega
            have h0 : 0 ≤ i := HN.out.1
            have b0 : decide (i < (m10.length : Int)) = true := decide_eq_true hi
            have hw : wrap64 (i + 1) = i + 1 := w64 (by omega) (by have := HS.out.2.2.2.2; omega)
            have hnx : (i + 1).toNat = i.toNat + 1 := by omega
            obtain ⟨ad, rfl, x0_, x1_⟩ := at_T36 (Kd.C_below Q10.out HB.out) i h0 hi
            have HL : Aside0 ((ws ++ wA (m10.take i.toNat)).length ≤ 1000) := ⟨by rw [List.length_append, wA_len, List.length_take]; have := HS.out.2.2.2.2; have := HLW.out; omega⟩
            have HX : Aside0 (ws ++ wA (m10.take (i + 1).toNat) = (ws ++ wA (m10.take i.toNat)) ++ [lowB (rd_T36 m10 i).f0, lowB (rd_T36 m10 i).f1]) := ⟨by rw [wA_take m10 i h0 hi, List.append_assoc]⟩
            generalize ws ++ wA (m10.take i.toNat) = xs at HO HX HL
            generalize (rd_T36 m10 i).f0 = pg at x0_ HX
            generalize (rd_T36 m10 i).f1 = pl at x1_ HX
            go_upto_region 24 with fail
            have hO := Kd.R_alloc HO.out (.cells #[.int .i64 pg, .int .i64 pl] 55)
            have hB := below_alloc HB.out (.cells #[.int .i64 pg, .int .i64 pl] 55)
            have y0_ : (wr.alloc (.cells #[.int .i64 pg, .int .i64 pl] 55)).cell? ⟨wr.heap.size, 0, none⟩ = some (.int .i64 pg) := (blk_cell (blk_new wr _) 0).trans rfl
            have y1_ : (wr.alloc (.cells #[.int .i64 pg, .int .i64 pl] 55)).cell? ⟨wr.heap.size, 1, none⟩ = some (.int .i64 pl) := (blk_cell (blk_new wr _) 1).trans rfl
            clear x0_ x1_ HO HB; have HO := Aside0.mk hO; have HB := Aside0.mk hB; have f1_0 := Aside0.mk y0_; have f2_0 := Aside0.mk y1_; clear hO hB y0_ y1_
            generalize wr.alloc (.cells #[.int .i64 pg, .int .i64 pl] 55) = W5 at HO HB f1_0 f2_0 ⊢
            generalize wr.heap.size = g2 at f1_0 f2_0 ⊢
            refine start_ (n := 10) (S := fun w' => Below W5.drew.heap.size W5.drew w') (ds := [8]) #[false, false, false, false, false, false, false, false, false, false] (by kernel_rfl) rfl rfl (Below.refl _ _) (fun hHeld => ?_); refine with_tabW say_rec.tab24 say_rec.bits24 (fun HT_ HW_ => ?_)
            refine ord_ [0, 1, 2, 4, 5, 3, 6, 7, 8, 9] ?_
            have HO := Aside0.mk (Kd.R_drew HO.out); have HB0 := Aside0.mk (below_drew HB.out); clear HB
            have f1_ := Aside0.mk (show W5.drew.cell? _ = _ from f1_0.out)
            have f2_ := Aside0.mk (show W5.drew.cell? _ = _ from f2_0.out)
            generalize W5.drew = V0 at HO HB0 hHeld f1_ f2_ ⊢
            iterate 5
              first
              | refine ordP (v := ?_) (a' := ?_) HT_ rfl rfl (by kernel_rfl) (fun _ _ _ h => h) (.inl ⟨by rfl, ?_⟩) ?_ ?_
                rotate_left
                · intro w'
                  go_simp
                  with_reducible rfl
                rotate_left
                · simp only [Act.put, List.setIfInBounds_toArray, List.set_cons_zero, List.set_cons_succ, i64_w, i32_w]
                  rfl
              | refine ordT (v := ?_) (a' := ?_) HT_ HW_ rfl rfl (by kernel_rfl) (fun _ _ _ h => h) (.inl ⟨by rfl, ?_⟩) hHeld ?_ ?_
                rotate_left
                · intro w' hs
                  have f1_x := below_cell hs f1_.out; have f2_x := below_cell hs f2_.out
                  go_simp
                  with_reducible rfl
                rotate_left
                · simp only [Act.put, List.setIfInBounds_toArray, List.set_cons_zero, List.set_cons_succ, i64_w, i32_w]
                  rfl
            refine ord1 (N := some 87) HT_ rfl rfl (by kernel_rfl) (by decide) (fun K hK => ?_)
            refine goes_ Tryz.func35 (by kernel_rfl) rfl #[.int .i64 pg] (by rfl) rfl rfl (by (try simp only [List.map_toArray, List.map_cons, List.map_nil]); rfl) ?_
            refine (say_num pg V0).mono ?_
            rintro e V1 ⟨rfl, hb⟩
            refine ⟨_, rfl, ?_⟩
            have HO := Aside0.mk (Kd.R_below HO.out hb)
            refine hK.out _ _ (below_step hHeld hb) (fun hHeld2 => ?_)
            clear hK K hb hHeld; have hHeld := hHeld2; clear hHeld2
            refine ordN (a' := ?_) ?_ ?_
            rotate_left
            · simp only [Act.put, List.setIfInBounds_toArray, List.set_cons_zero, List.set_cons_succ]
              rfl
            refine ord1 (N := some 90) HT_ rfl rfl (by kernel_rfl) (by decide) (fun K hK => ?_)
            refine goes_ Tryz.func35 (by kernel_rfl) rfl #[.int .i64 pl] (by rfl) rfl rfl (by (try simp only [List.map_toArray, List.map_cons, List.map_nil]); rfl) ?_
            refine (say_num pl V1).mono ?_
            rintro e V2 ⟨rfl, hb⟩
            refine ⟨_, rfl, ?_⟩
            have HO := Aside0.mk (Kd.R_below HO.out hb)
            refine hK.out _ _ (below_step hHeld hb) (fun hHeld2 => ?_)
            clear hK K hb hHeld; have hHeld := hHeld2; clear hHeld2
            refine ordN (a' := ?_) ?_ ?_
            rotate_left
            · simp only [Act.put, List.setIfInBounds_toArray, List.set_cons_zero, List.set_cons_succ]
              rfl
            refine ord1 (N := some 91) HT_ rfl rfl (by kernel_rfl) (by decide) (fun K hK => ?_)
            with_reducible refine val_step (N := some 91) (.slice (some ⟨V2.heap.size, 0, none⟩) 2 2) (w1 := (V2.alloc (.cells #[.string (lowB pg), .string (lowB pl)] 9))) ?hw ?hd ?hr ?_
            case hw => rfl
            case hd => rfl
            case hr => first | (go_simp; done) | (go_simp; rfl)
            have HC : Aside0 (Kd.C Kd.string (V2.alloc (.cells #[.string (lowB pg), .string (lowB pl)] 9)) (some ⟨V2.heap.size, 0, none⟩) 2 [(lowB pg), (lowB pl)]) := ⟨strs_new V2 9 [(lowB pg), (lowB pl)] (by simp)⟩
            have HO := Aside0.mk (Kd.R_alloc HO.out (.cells #[.string (lowB pg), .string (lowB pl)] 9))
            refine hK.out _ _ (below_alloc hHeld _) (fun hHeld2 => ?_)
            clear hK K hHeld; have hHeld := hHeld2; clear hHeld2
            refine ordN (a' := ?_) ?_ ?_
            rotate_left
            · simp only [Act.put, List.setIfInBounds_toArray, List.set_cons_zero, List.set_cons_succ]
              rfl
            refine ordL (N := some 92) HT_ rfl rfl (by kernel_rfl) (by decide) (fun K hK => ?_)
            have HB1 := Aside0.mk (below_step HB0.out hHeld)
            with_reducible refine words_step (w0 := W3) (N := some 92) ?hw ?hd (.tmp 84) (.tmp 91) ?ao v xs [(lowB pg), (lowB pl)] _ 2 2 ?hs ?hx HO.out HC.out HB1.out ?aL ?_
            case hw => rfl
            case hd => rfl
            case ao => rfl
            case hs => rfl
            case hx => rfl
            case aL => have := HL.out; omega
            intro v92 V4 ho hb
            have HO := Aside0.mk ho; have HB := Aside0.mk hb
            refine hK.out _ _ ?_
            clear hK K hb ho hHeld HC HB0 HB1
            refine ordN (a' := ?_) ?_ ?_
            rotate_left
            · simp only [Act.put, List.setIfInBounds_toArray, List.set_cons_zero, List.set_cons_succ]
              rfl
            refine ordP (v := ?_) (a' := ?_) HT_ rfl rfl (by kernel_rfl) (fun _ _ _ h => h) (.inl ⟨by rfl, ?_⟩) ?_ ?_
            rotate_left
            · intro w'
              go_simp
              with_reducible rfl
            rotate_left
            · simp only [Act.put, List.setIfInBounds_toArray, List.set_cons_zero, List.set_cons_succ, i64_w, i32_w]
              rfl
            refine ordD HT_ (by kernel_rfl) ?_
            clear HT_ HW_
            go_wp2_with fail
            go_roundg k1
            case measure => omega
            case rel => exact ⟨i + 1, _, by first | rfl | rw [hw], rfl, ⟨by omega, by have := HN.out; omega⟩, ⟨by rw [HX.out]; exact HO.out⟩, HB⟩
      · have e9 : m9 = [] := HR.out.2.1.elim (fun h => absurd h (by omega)) (fun h => h.resolve_left (by omega))
        have e10 : m10 = [] := HR.out.2.2.resolve_left (by omega)
        have EW : Aside0 (sw = [(lowB y11), (lowB y12)]) := ⟨by rw [SW.out, e9, e10]; unfold wI wA wCk wU wE; rw [if_neg (by omega), if_neg (by omega), if_pos hk]; simp⟩
        clear e9 e10
        subst hk
        go_upto_region 27 with fail
        clear z0 z1 z2 z3 z4 z5 z6 z7 z8 z9 z10 z11 z12 z13 z14 z15 z16 z17 z18 z19 z20 z21 z22 z23 z24 z25
        refine start_ (n := 10) (S := fun w' => Below W3.heap.size W3 w') (ds := []) #[false, false, false, false, false, false, false, false, false, false] (by kernel_rfl) rfl rfl (below_drew HB.out) (fun hHeld => ?_); refine with_tabW say_rec.tab27 say_rec.bits27 (fun HT_ HW_ => ?_)
        refine ord_ [0, 1, 2, 4, 5, 3, 6, 7, 8, 9] ?_
        have HO := Aside0.mk (Kd.R_drew HO.out); clear HB
        generalize wc.drew = V0 at hHeld HO ⊢
        iterate 5
          first
          | refine ordP (v := ?_) (a' := ?_) HT_ rfl rfl (by kernel_rfl) (fun _ _ _ h => h) (.inl ⟨by rfl, ?_⟩) ?_ ?_
            rotate_left
            · intro w'
              go_simp
              with_reducible rfl
            rotate_left
            · simp only [Act.put, List.setIfInBounds_toArray, List.set_cons_zero, List.set_cons_succ, i64_w, i32_w]
              rfl
          | refine ordT (v := ?_) (a' := ?_) HT_ HW_ rfl rfl (by kernel_rfl) (fun _ _ _ h => h) (.inl ⟨by rfl, ?_⟩) hHeld ?_ ?_
            rotate_left
            · intro w' hs
              obtain ⟨s0, s1, s2, s3, s4, s5, s6, s7, s8, s9, s10, s11, s12, _⟩ := IsRec.all13 (IsRec.below RY.out hs)
              go_simp
              with_reducible rfl
            rotate_left
            · simp only [Act.put, List.setIfInBounds_toArray, List.set_cons_zero, List.set_cons_succ, i64_w, i32_w]
              rfl
        refine ord1 (N := some 99) HT_ rfl rfl (by kernel_rfl) (by decide) (fun K hK => ?_)
        refine goes_ Tryz.func35 (by kernel_rfl) rfl #[.int .i64 y11] (by rfl) rfl rfl (by (try simp only [List.map_toArray, List.map_cons, List.map_nil]); rfl) ?_
        refine (say_num y11 V0).mono ?_
        rintro e V1 ⟨rfl, hb⟩
        refine ⟨_, rfl, ?_⟩
        have HO := Aside0.mk (Kd.R_below HO.out hb)
        refine hK.out _ _ (below_step hHeld hb) (fun hHeld2 => ?_)
        clear hK K hb hHeld; have hHeld := hHeld2; clear hHeld2
        refine ordN (a' := ?_) ?_ ?_
        rotate_left
        · simp only [Act.put, List.setIfInBounds_toArray, List.set_cons_zero, List.set_cons_succ]
          rfl
        refine ord1 (N := some 102) HT_ rfl rfl (by kernel_rfl) (by decide) (fun K hK => ?_)
        refine goes_ Tryz.func35 (by kernel_rfl) rfl #[.int .i64 y12] (by rfl) rfl rfl (by (try simp only [List.map_toArray, List.map_cons, List.map_nil]); rfl) ?_
        refine (say_num y12 V1).mono ?_
        rintro e V2 ⟨rfl, hb⟩
        refine ⟨_, rfl, ?_⟩
        have HO := Aside0.mk (Kd.R_below HO.out hb)
        refine hK.out _ _ (below_step hHeld hb) (fun hHeld2 => ?_)
        clear hK K hb hHeld; have hHeld := hHeld2; clear hHeld2
        refine ordN (a' := ?_) ?_ ?_
        rotate_left
        · simp only [Act.put, List.setIfInBounds_toArray, List.set_cons_zero, List.set_cons_succ]
          rfl
        refine ord1 (N := some 103) HT_ rfl rfl (by kernel_rfl) (by decide) (fun K hK => ?_)
        with_reducible refine val_step (N := some 103) (.slice (some ⟨V2.heap.size, 0, none⟩) 2 2) (w1 := (V2.alloc (.cells #[.string (lowB y11), .string (lowB y12)] 9))) ?hw ?hd ?hr ?_
        case hw => rfl
        case hd => rfl
        case hr => first | (go_simp; done) | (go_simp; rfl)
        have HC : Aside0 (Kd.C Kd.string (V2.alloc (.cells #[.string (lowB y11), .string (lowB y12)] 9)) (some ⟨V2.heap.size, 0, none⟩) 2 [(lowB y11), (lowB y12)]) := ⟨strs_new V2 9 [(lowB y11), (lowB y12)] (by simp)⟩
        have HO := Aside0.mk (Kd.R_alloc HO.out (.cells #[.string (lowB y11), .string (lowB y12)] 9))
        refine hK.out _ _ (below_alloc hHeld _) (fun hHeld2 => ?_)
        clear hK K hHeld; have hHeld := hHeld2; clear hHeld2
        refine ordN (a' := ?_) ?_ ?_
        rotate_left
        · simp only [Act.put, List.setIfInBounds_toArray, List.set_cons_zero, List.set_cons_succ]
          rfl
        refine ord1 (N := some 104) HT_ rfl rfl (by kernel_rfl) (by decide) (fun K hK => ?_)
        with_reducible refine words_step (w0 := W3) (N := some 104) ?hw ?hd (.tmp 96) (.tmp 103) ?ao vr ws [(lowB y11), (lowB y12)] _ 2 2 ?hs ?hx HO.out HC.out hHeld ?aL ?_
        case hw => rfl
        case hd => rfl
        case ao => rfl
        case hs => rfl
        case hx => rfl
        case aL => have := HLW.out; omega
        intro v104 V4 ho hb
        have HO := Aside0.mk ho
        refine hK.out _ _ hb (fun hHeld2 => ?_)
        clear hK K hb ho hHeld HC; have hHeld := hHeld2; clear hHeld2
        refine ordN (a' := ?_) ?_ ?_
        rotate_left
        · simp only [Act.put, List.setIfInBounds_toArray, List.set_cons_zero, List.set_cons_succ]
          rfl
        refine ordP (v := ?_) (a' := ?_) HT_ rfl rfl (by kernel_rfl) (fun _ _ _ h => h) (.inl ⟨by rfl, ?_⟩) ?_ ?_
        rotate_left
        · intro w'
          go_simp
          with_reducible rfl
        rotate_left
        · simp only [Act.put, List.setIfInBounds_toArray, List.set_cons_zero, List.set_cons_succ, i64_w, i32_w]
          rfl
        refine ordD HT_ (by kernel_rfl) ?_
        have HB := Aside0.mk hHeld; clear hHeld HT_ HW_ 
        go_wp2_with fail
        go_meet
        case rel => exact ⟨_, rfl, ⟨by rw [EW.out]; exact HO.out⟩, HB⟩
      · have e9 : m9 = [] := HR.out.2.1.elim (fun h => absurd h (by omega)) (fun h => h.resolve_left (by omega))
        have e10 : m10 = [] := HR.out.2.2.resolve_left (by omega)
        have EW : Aside0 (sw = []) := ⟨by rw [SW.out, e9, e10]; unfold wI wA wCk wU wE; rw [if_neg (by omega), if_neg (by omega), if_neg (by omega)]; simp⟩
        have t1 : (y0 == 1) = false := beq_eq_false_iff_ne.mpr (by omega)
        have t2 : (y0 == 2) = false := beq_eq_false_iff_ne.mpr (by omega)
        have t3 : (y0 == 3) = false := beq_eq_false_iff_ne.mpr (by omega)
        have t4 : (y0 == 4) = false := beq_eq_false_iff_ne.mpr (by omega)
        have t5 : (y0 == 5) = false := beq_eq_false_iff_ne.mpr (by omega)
        have t6 : (y0 == 6) = false := beq_eq_false_iff_ne.mpr (by omega)
        have t9 : (y0 == 9) = false := beq_eq_false_iff_ne.mpr (by omega)
        have t10 : (y0 == 10) = false := beq_eq_false_iff_ne.mpr (by omega)
        clear e9 e10 hk
        go_wp2_with fail
        go_meet
        case rel => exact ⟨_, rfl, ⟨by rw [EW.out, List.append_nil]; exact HO.out⟩, HB⟩
    case rest =>
      clear HO HB
      obtain ⟨vr, rfl, HO, HB⟩ := hcut
      generalize ws ++ sw = al at HO HF
      obtain ⟨JA, jc, rfl, hj, hjc⟩ := Kd.R_reads HO.out
      have HJ := Aside0.mk (Hook.strings_Join.calls JA jc _ _ _ wc hjc hj HF.out); clear hj hjc
      go_wp2_with fail
      refine HJ.out.mono ?_
      rintro e w5 ⟨rfl, hb⟩
      have HB5 := Aside0.mk (below_step (below_step B3.out HB.out) hb); clear hb HJ
      go_wp2_with fail
      go_ret
      exact ⟨rfl, HB5.out⟩
end Go.Proofs.YteoebfiacnploaaGreatDoor.HRec
