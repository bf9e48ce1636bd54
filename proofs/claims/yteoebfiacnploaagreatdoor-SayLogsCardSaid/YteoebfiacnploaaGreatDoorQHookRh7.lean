/- rec.Of: its walk for the kinds 7 and 8. It proves no statement. -/
import Derived.Test.YteoebfiacnploaaGreatDoorQHookRh0
namespace Go.Proofs.YteoebfiacnploaaGreatDoor.HRec
open Go.RowKit Go.Proofs.YteoebfiacnploaaGreatDoorW.PrintWords Go.Proofs.YteoebfiacnploaaGreatDoorW.PrintLast Go.Proofs.YteoebfiacnploaaGreatDoorW.PrintMore
set_option linter.unusedVariables false
set_option linter.unusedSimpArgs false
set_option maxHeartbeats 8000000 in
set_option maxRecDepth 100000 in
theorem of_7 (s : ByteArray) (a1 : ByteArray) (a2 a3 : Int) (r1 r2 r3 r4 r5 : Int) (r6 r7 r8 : ByteArray) (r9 : Int) (r10 : List S144) (r11 : List S36) (r12 r13 r14 : Int) (w : World) (ha : pack_Reader_Num.f s 0 0 1 = some (7, a1, a2, a3)) (h3 : a3 = 0) (h : ((pack_Reader_Num.f a1 a2 a3 6).bind fun b => (pack_Reader_Num.f b.2.1 b.2.2.1 b.2.2.2 6).bind fun c => ofTail s c.2 7 b.1 c.1 0 0 ⟨#[]⟩ ⟨#[]⟩ ⟨#[]⟩ 0 [] [] 0 0) = some (r1, r2, r3, r4, r5, r6, r7, r8, r9, r10, r11, r12, r13, r14)) :
    Calls Tryz.prog 58 #[.string s] w fun e w' => ∃ v9_ v10_ : Value, e = .returned (.tuple #[.agg #[.int .i64 r1, .int .i64 r2, .int .i64 r3, .int .i64 r4, .int .i64 r5, .string r6, .string r7, .string r8, .int .i64 r9, v9_, v10_, .int .i64 r12, .int .i64 r13], .int .i64 r14]) ∧ Kd.R k144 53 w' w.heap.size (fun _ => True) v9_ r10 ∧ Kd.R k36 55 w' w.heap.size (fun _ => True) v10_ r11 ∧ Below w.heap.size w w' := by
  have Fa := Aside0.mk ha; clear ha
  replace h := Option.bind_eq_some_iff.mp h
  obtain ⟨⟨b, b1, b2, b3⟩, hb, h⟩ := h
  have Fb := Aside0.mk hb; clear hb
  replace h := Option.bind_eq_some_iff.mp h
  obtain ⟨⟨c, c1, c2, c3⟩, hc, h⟩ := h
  have Fc := Aside0.mk hc; clear hc
  unfold ofTail at h
  replace h := Option.bind_eq_some_iff.mp h
  obtain ⟨⟨e0, e1, e2, e3⟩, he, h⟩ := h
  have Fe := Aside0.mk he; clear he; have hu32 := Tryz.underlying33
  have B0 := Aside0.mk (below_alloc (Below.refl w.heap.size w) (.cells #[.int .i64 0, .int .i64 0, .int .i64 0, .int .i64 0, .int .i64 0, .string ⟨#[]⟩, .string ⟨#[]⟩, .string ⟨#[]⟩, .int .i64 0, (.slice none 0 0), (.slice none 0 0), .int .i64 0, .int .i64 0] 33))
  have Z0 := Aside0.mk (show IsRec (w.alloc (.cells #[.int .i64 0, .int .i64 0, .int .i64 0, .int .i64 0, .int .i64 0, .string ⟨#[]⟩, .string ⟨#[]⟩, .string ⟨#[]⟩, .int .i64 0, (.slice none 0 0), (.slice none 0 0), .int .i64 0, .int .i64 0] 33)) w.heap.size 0 0 0 0 0 ⟨#[]⟩ ⟨#[]⟩ ⟨#[]⟩ 0 (.slice none 0 0) (.slice none 0 0) 0 0 from blk_new w _)
  go_enter Tryz.func58, Tryz.ntmps58
  go_wp2_with fail
  refine (pack_Read.calls s s 0 0 w _ B0.out rfl).mono ?_
  rintro x W1 ⟨g, rfl, q1, q2, q3⟩
  have I1 := Aside0.mk q1; have B1 := Aside0.mk q2; have Z1 := Aside0.mk (IsRec.below Z0.out q3); clear q1 q2 q3 B0 Z0
  have GZ := Aside0.mk (show w.heap.size ≠ g from fun e => IsS124.ne_blk I1.out Z1.out (by decide) e.symm)
  go_wp2_with fail
  refine (pack_Reader_Num.calls g s 0 0 1 7 a1 a2 a3 w _ I1.out B1.out Fa.out).mono ?_
  rintro x W2 ⟨rfl, q1, q2, q3⟩
  have I2 := Aside0.mk q1; have B2 := Aside0.mk q2; have Z2 := Aside0.mk (IsRec.keep Z1.out q3 GZ.out); clear q1 q2 q3 I1 B1 Z1
  have R2 := Aside0.mk (show IsRec (W2.alloc (.cells #[.int .i64 7, .int .i64 0, .int .i64 0, .int .i64 0, .int .i64 0, .string ⟨#[]⟩, .string ⟨#[]⟩, .string ⟨#[]⟩, .int .i64 0, (.slice none 0 0), (.slice none 0 0), .int .i64 0, .int .i64 0] 33)) W2.heap.size 7 0 0 0 0 ⟨#[]⟩ ⟨#[]⟩ ⟨#[]⟩ 0 (.slice none 0 0) (.slice none 0 0) 0 0 from blk_new W2 _)
  have I2a := Aside0.mk (IsS124.alloc I2.out (.cells #[.int .i64 7, .int .i64 0, .int .i64 0, .int .i64 0, .int .i64 0, .string ⟨#[]⟩, .string ⟨#[]⟩, .string ⟨#[]⟩, .int .i64 0, (.slice none 0 0), (.slice none 0 0), .int .i64 0, .int .i64 0] 33))
  have B2a := Aside0.mk (below_alloc B2.out (.cells #[.int .i64 7, .int .i64 0, .int .i64 0, .int .i64 0, .int .i64 0, .string ⟨#[]⟩, .string ⟨#[]⟩, .string ⟨#[]⟩, .int .i64 0, (.slice none 0 0), (.slice none 0 0), .int .i64 0, .int .i64 0] 33))
  have Z2a := Aside0.mk (IsRec.below Z2.out (below_alloc (Below.refl _ _) (.cells #[.int .i64 7, .int .i64 0, .int .i64 0, .int .i64 0, .int .i64 0, .string ⟨#[]⟩, .string ⟨#[]⟩, .string ⟨#[]⟩, .int .i64 0, (.slice none 0 0), (.slice none 0 0), .int .i64 0, .int .i64 0] 33)))
  have HS := Aside0.mk (show w.heap.size < W2.heap.size from blk_lt Z2.out)
  have HG := Aside0.mk (show g < W2.heap.size from IsS124.lt I2.out)
  go_wp2_with fail
  refine (pack_Reader_Err.calls g a1 a2 a3 a3 a1 a2 a3 w _ I2a.out B2a.out rfl).mono ?_
  rintro x W3 ⟨rfl, q1, q2, q3⟩
  obtain ⟨h0, hh0⟩ : ∃ h0, h0 = W2.heap.size := ⟨_, rfl⟩
  rw [← hh0] at HS HG R2
  rw [← hh0]
  have I3 := Aside0.mk q1; have B3 := Aside0.mk q2; have Z3 := Aside0.mk (IsRec.keep Z2a.out q3 GZ.out)
  have R3 := Aside0.mk (IsRec.keep R2.out q3 (by have := HG.out; omega))
  clear q1 q2 q3 I2 B2 Z2 R2 I2a B2a Z2a hh0
  subst h3
  obtain ⟨zR3_0, zR3_1, zR3_2, zR3_3, zR3_4, zR3_5, zR3_6, zR3_7, zR3_8, zR3_9, zR3_10, zR3_11, zR3_12⟩ := IsRec.ats R3.out; obtain ⟨yR3_0, yR3_1, yR3_2, yR3_3, yR3_4, yR3_5, yR3_6, yR3_7, yR3_8, yR3_9, yR3_10, yR3_11, yR3_12⟩ := IsRec.frees R3.out
  have HB := Aside0.mk (show h0 < W3.heap.size from blk_lt R3.out)
  have N3 := Aside0.mk (show Rows2 W3 W3.heap.size W3.heap.size (.slice none 0 0) [] (.slice none 0 0) [] from Rows2.none _ _ (Nat.le_refl _))
  go_wp2_with fail
  refine (pack_Reader_Num.calls g a1 a2 0 6 b b1 b2 b3 w _ I3.out B3.out Fb.out).mono ?_
  rintro x W4 ⟨rfl, q1, q2, q3⟩
  have I4 := Aside0.mk q1; have B4 := Aside0.mk q2; have Z4 := Aside0.mk (IsRec.keep Z3.out q3 GZ.out)
  have R4 := Aside0.mk (IsRec.keep R3.out q3 (by have := HG.out; omega))
  obtain ⟨zR4_0, zR4_1, zR4_2, zR4_3, zR4_4, zR4_5, zR4_6, zR4_7, zR4_8, zR4_9, zR4_10, zR4_11, zR4_12⟩ := IsRec.ats R4.out; obtain ⟨yR4_0, yR4_1, yR4_2, yR4_3, yR4_4, yR4_5, yR4_6, yR4_7, yR4_8, yR4_9, yR4_10, yR4_11, yR4_12⟩ := IsRec.frees R4.out
  have N4 := Aside0.mk (Rows2.keep N3.out q3 (show g < W3.heap.size by have := HG.out; have := HB.out; omega))
  clear q1 q2 q3
  go_wp2_with fail
  refine (pack_Reader_Num.calls g b1 b2 b3 6 c c1 c2 c3 w _ I4.out B4.out Fc.out).mono ?_
  rintro x W5 ⟨rfl, q1, q2, q3⟩
  have I5 := Aside0.mk q1; have B5 := Aside0.mk q2; have Z5 := Aside0.mk (IsRec.keep Z4.out q3 GZ.out)
  have R5 := Aside0.mk (IsRec.keep R4.out q3 (by have := HG.out; omega))
  obtain ⟨zR5_0, zR5_1, zR5_2, zR5_3, zR5_4, zR5_5, zR5_6, zR5_7, zR5_8, zR5_9, zR5_10, zR5_11, zR5_12⟩ := IsRec.ats R5.out; obtain ⟨yR5_0, yR5_1, yR5_2, yR5_3, yR5_4, yR5_5, yR5_6, yR5_7, yR5_8, yR5_9, yR5_10, yR5_11, yR5_12⟩ := IsRec.frees R5.out
  have N5 := Aside0.mk (Rows2.keep N4.out q3 (show g < W3.heap.size by have := HG.out; have := HB.out; omega))
  clear q1 q2 q3
  go_wp2_with fail
  refine (pack_Reader_End.calls g c1 c2 c3 e0 e1 e2 e3 w _ (IsS124.far (IsS124.far I5.out (by show g ≠ h0; have := HG.out; omega) _) (by show g ≠ h0; have := HG.out; omega) _) (below_set (below_set B5.out (by have := HS.out; omega)) (by have := HS.out; omega)) Fe.out).mono ?_
  rintro x W6 ⟨rfl, q1, q2, q3⟩
  have I6 := Aside0.mk q1; have B6 := Aside0.mk q2
  have Z6 := Aside0.mk (IsRec.keep (IsRec.farH (IsRec.farH Z5.out (by show w.heap.size ≠ h0; have := HS.out; omega) _) (by show w.heap.size ≠ h0; have := HS.out; omega) _) q3 GZ.out)
  have R6 := Aside0.mk (IsRec.keep (IsRec.set_2 (IsRec.set_1 R5.out b) c) q3 (by have := HG.out; omega))
  obtain ⟨zR6_0, zR6_1, zR6_2, zR6_3, zR6_4, zR6_5, zR6_6, zR6_7, zR6_8, zR6_9, zR6_10, zR6_11, zR6_12⟩ := IsRec.ats R6.out; obtain ⟨yR6_0, yR6_1, yR6_2, yR6_3, yR6_4, yR6_5, yR6_6, yR6_7, yR6_8, yR6_9, yR6_10, yR6_11, yR6_12⟩ := IsRec.frees R6.out
  have Q6 := Aside0.mk (Rows2.keep (Rows2.set (Rows2.set N5.out (show h0 < W3.heap.size from HB.out)) (show h0 < W3.heap.size from HB.out)) q3 (show g < W3.heap.size by have := HG.out; have := HB.out; omega))
  clear q1 q2 q3
  by_cases he : e0 = 0
  · subst he
    rw [if_pos rfl] at h
    replace h := Option.bind_eq_some_iff.mp h
    obtain ⟨⟨b0, b1⟩, hb, h⟩ := h
    have Fb := Aside0.mk hb; clear hb
    have hc9 := (Kd.R_reads' Q6.out.1).2.1
    have hC9 := (Kd.R_reads' Q6.out.1).2.2
    have hc10 := (Kd.R_reads' Q6.out.2.1).2.1
    have hC10 := (Kd.R_reads' Q6.out.2.1).2.2
    have C9 := Aside0.mk hC9; have C10 := Aside0.mk hC10; clear hC9 hC10
    go_wp2_with fail
    refine (rec_body.calls 7 b c 0 0 ⟨#[]⟩ ⟨#[]⟩ ⟨#[]⟩ 0 none 0 ([] : List S144) none 0 ([] : List S36) 0 0 b0 b1 _ C9.out hc9 C10.out hc10 Fb.out).mono ?_
    rintro x W7 ⟨rfl, q⟩
    have B7 := Aside0.mk (below_step B6.out q); have Z7 := Aside0.mk (IsRec.below Z6.out q); have R7 := Aside0.mk (IsRec.below R6.out q); have Q7 := Aside0.mk (Rows2.below Q6.out q); clear q; clear zR6_0 yR6_0 zR6_1 yR6_1 zR6_2 yR6_2 zR6_3 yR6_3 zR6_4 yR6_4 zR6_5 yR6_5 zR6_6 yR6_6 zR6_7 yR6_7 zR6_8 yR6_8 zR6_9 yR6_9 zR6_10 yR6_10 zR6_11 yR6_11 zR6_12 yR6_12
    by_cases hb1 : b1 = 0
    · subst hb1
      rw [if_pos rfl] at h
      by_cases hs : b0.toList = s.toList
      · rw [if_pos hs] at h
        simp only [Option.some.injEq, Prod.mk.injEq] at h
        obtain ⟨rfl, rfl, rfl, rfl, rfl, rfl, rfl, rfl, rfl, rfl, rfl, rfl, rfl, rfl⟩ := h
        have u0 : (b0.toList == s.toList) = true := beq_iff_eq.mpr hs
        have u1 : (b0.toList != s.toList) = false := bne_eq_false_iff_eq.mpr hs
        obtain ⟨zR7_0, zR7_1, zR7_2, zR7_3, zR7_4, zR7_5, zR7_6, zR7_7, zR7_8, zR7_9, zR7_10, zR7_11, zR7_12⟩ := IsRec.ats R7.out; obtain ⟨yR7_0, yR7_1, yR7_2, yR7_3, yR7_4, yR7_5, yR7_6, yR7_7, yR7_8, yR7_9, yR7_10, yR7_11, yR7_12⟩ := IsRec.frees R7.out; obtain ⟨zZ7_0, zZ7_1, zZ7_2, zZ7_3, zZ7_4, zZ7_5, zZ7_6, zZ7_7, zZ7_8, zZ7_9, zZ7_10, zZ7_11, zZ7_12⟩ := IsRec.ats Z7.out; obtain ⟨yZ7_0, yZ7_1, yZ7_2, yZ7_3, yZ7_4, yZ7_5, yZ7_6, yZ7_7, yZ7_8, yZ7_9, yZ7_10, yZ7_11, yZ7_12⟩ := IsRec.frees Z7.out
        go_wp2_with fail
        have ZZ := (IsRec.sets13 Z7.out 7 b c 0 0 ⟨#[]⟩ ⟨#[]⟩ ⟨#[]⟩ 0 (.slice none 0 0) (.slice none 0 0) 0 0)
        have QQ := Rows2.done (b := w.heap.size) (Rows2.sets13 Q7.out (show w.heap.size < W3.heap.size by have := HS.out; have := HB.out; omega) (.int .i64 7) (.int .i64 b) (.int .i64 c) (.int .i64 0) (.int .i64 0) (.string ⟨#[]⟩) (.string ⟨#[]⟩) (.string ⟨#[]⟩) (.int .i64 0) (.slice none 0 0) (.slice none 0 0) (.int .i64 0) (.int .i64 0)) (show w.heap.size ≤ W3.heap.size by have := HS.out; have := HB.out; omega)
        (try simp only [Exit.inBlock, Exit.then])
        refine bodyPost_ret (results_ct rfl _ _ w.heap.size 33 #[.int .i64 7, .int .i64 b, .int .i64 c, .int .i64 0, .int .i64 0, .string ⟨#[]⟩, .string ⟨#[]⟩, .string ⟨#[]⟩, .int .i64 0, (.slice none 0 0), (.slice none 0 0), .int .i64 0, .int .i64 0] (0, 0) _ rfl ZZ hu32 rfl (by kernel_rfl)) rfl ?_
        exact ⟨_, _, rfl, QQ.1, QQ.2, (below13 B7.out (Nat.le_refl _))⟩
      · rw [if_neg hs] at h
        unfold noRec at h
        simp only [Option.some.injEq, Prod.mk.injEq] at h
        obtain ⟨rfl, rfl, rfl, rfl, rfl, rfl, rfl, rfl, rfl, rfl, rfl, rfl, rfl, rfl⟩ := h
        have u0 : (b0.toList == s.toList) = false := beq_eq_false_iff_ne.mpr hs
        have u1 : (b0.toList != s.toList) = true := bne_iff_ne.mpr hs
        obtain ⟨zZ7_0, zZ7_1, zZ7_2, zZ7_3, zZ7_4, zZ7_5, zZ7_6, zZ7_7, zZ7_8, zZ7_9, zZ7_10, zZ7_11, zZ7_12⟩ := IsRec.ats Z7.out; obtain ⟨yZ7_0, yZ7_1, yZ7_2, yZ7_3, yZ7_4, yZ7_5, yZ7_6, yZ7_7, yZ7_8, yZ7_9, yZ7_10, yZ7_11, yZ7_12⟩ := IsRec.frees Z7.out
        go_wp2_with fail
        have ZZ := (IsRec.sets13 Z7.out 0 0 0 0 0 ⟨#[]⟩ ⟨#[]⟩ ⟨#[]⟩ 0 (.slice none 0 0) (.slice none 0 0) 0 0)
        (try simp only [Exit.inBlock, Exit.then])
        refine bodyPost_ret (results_ct rfl _ _ w.heap.size 33 #[.int .i64 0, .int .i64 0, .int .i64 0, .int .i64 0, .int .i64 0, .string ⟨#[]⟩, .string ⟨#[]⟩, .string ⟨#[]⟩, .int .i64 0, (.slice none 0 0), (.slice none 0 0), .int .i64 0, .int .i64 0] (0, 0) _ rfl ZZ hu32 rfl (by kernel_rfl)) rfl ?_
        exact ⟨_, _, rfl, Kd.R_nil _ _ _ _ _, Kd.R_nil _ _ _ _ _, (below13 B7.out (Nat.le_refl _))⟩
    · rw [if_neg hb1] at h
      have u0 : (b1 == 0) = false := beq_eq_false_iff_ne.mpr hb1
      have u1 : (b1 != 0) = true := bne_iff_ne.mpr hb1
      unfold noRec at h
      simp only [Option.some.injEq, Prod.mk.injEq] at h
      obtain ⟨rfl, rfl, rfl, rfl, rfl, rfl, rfl, rfl, rfl, rfl, rfl, rfl, rfl, rfl⟩ := h
      obtain ⟨zZ7_0, zZ7_1, zZ7_2, zZ7_3, zZ7_4, zZ7_5, zZ7_6, zZ7_7, zZ7_8, zZ7_9, zZ7_10, zZ7_11, zZ7_12⟩ := IsRec.ats Z7.out; obtain ⟨yZ7_0, yZ7_1, yZ7_2, yZ7_3, yZ7_4, yZ7_5, yZ7_6, yZ7_7, yZ7_8, yZ7_9, yZ7_10, yZ7_11, yZ7_12⟩ := IsRec.frees Z7.out
      go_wp2_with fail
      have ZZ := (IsRec.sets13 Z7.out 0 0 0 0 0 ⟨#[]⟩ ⟨#[]⟩ ⟨#[]⟩ 0 (.slice none 0 0) (.slice none 0 0) 0 0)
      (try simp only [Exit.inBlock, Exit.then])
      refine bodyPost_ret (results_ct rfl _ _ w.heap.size 33 #[.int .i64 0, .int .i64 0, .int .i64 0, .int .i64 0, .int .i64 0, .string ⟨#[]⟩, .string ⟨#[]⟩, .string ⟨#[]⟩, .int .i64 0, (.slice none 0 0), (.slice none 0 0), .int .i64 0, .int .i64 0] (0, 0) _ rfl ZZ hu32 rfl (by kernel_rfl)) rfl ?_
      exact ⟨_, _, rfl, Kd.R_nil _ _ _ _ _, Kd.R_nil _ _ _ _ _, (below13 B7.out (Nat.le_refl _))⟩
  · rw [if_neg he] at h
    have u0 : (e0 == 0) = false := beq_eq_false_iff_ne.mpr he
    have u1 : (e0 != 0) = true := bne_iff_ne.mpr he
    unfold noRec at h
    simp only [Option.some.injEq, Prod.mk.injEq] at h
    obtain ⟨rfl, rfl, rfl, rfl, rfl, rfl, rfl, rfl, rfl, rfl, rfl, rfl, rfl, rfl⟩ := h
    obtain ⟨zZ6_0, zZ6_1, zZ6_2, zZ6_3, zZ6_4, zZ6_5, zZ6_6, zZ6_7, zZ6_8, zZ6_9, zZ6_10, zZ6_11, zZ6_12⟩ := IsRec.ats Z6.out; obtain ⟨yZ6_0, yZ6_1, yZ6_2, yZ6_3, yZ6_4, yZ6_5, yZ6_6, yZ6_7, yZ6_8, yZ6_9, yZ6_10, yZ6_11, yZ6_12⟩ := IsRec.frees Z6.out
    go_wp2_with fail
    have ZZ := (IsRec.sets13 Z6.out 0 0 0 0 0 ⟨#[]⟩ ⟨#[]⟩ ⟨#[]⟩ 0 (.slice none 0 0) (.slice none 0 0) 0 0)
    (try simp only [Exit.inBlock, Exit.then])
    refine bodyPost_ret (results_ct rfl _ _ w.heap.size 33 #[.int .i64 0, .int .i64 0, .int .i64 0, .int .i64 0, .int .i64 0, .string ⟨#[]⟩, .string ⟨#[]⟩, .string ⟨#[]⟩, .int .i64 0, (.slice none 0 0), (.slice none 0 0), .int .i64 0, .int .i64 0] (0, 0) _ rfl ZZ hu32 rfl (by kernel_rfl)) rfl ?_
    exact ⟨_, _, rfl, Kd.R_nil _ _ _ _ _, Kd.R_nil _ _ _ _ _, (below13 B6.out (Nat.le_refl _))⟩
set_option maxHeartbeats 8000000 in
set_option maxRecDepth 100000 in
theorem of_8 (s : ByteArray) (a1 : ByteArray) (a2 a3 : Int) (r1 r2 r3 r4 r5 : Int) (r6 r7 r8 : ByteArray) (r9 : Int) (r10 : List S144) (r11 : List S36) (r12 r13 r14 : Int) (w : World) (ha : pack_Reader_Num.f s 0 0 1 = some (8, a1, a2, a3)) (h3 : a3 = 0) (h : ((pack_Reader_Num.f a1 a2 a3 6).bind fun b => (pack_Reader_Num.f b.2.1 b.2.2.1 b.2.2.2 6).bind fun c => ofTail s c.2 8 b.1 c.1 0 0 ⟨#[]⟩ ⟨#[]⟩ ⟨#[]⟩ 0 [] [] 0 0) = some (r1, r2, r3, r4, r5, r6, r7, r8, r9, r10, r11, r12, r13, r14)) :
    Calls Tryz.prog 58 #[.string s] w fun e w' => ∃ v9_ v10_ : Value, e = .returned (.tuple #[.agg #[.int .i64 r1, .int .i64 r2, .int .i64 r3, .int .i64 r4, .int .i64 r5, .string r6, .string r7, .string r8, .int .i64 r9, v9_, v10_, .int .i64 r12, .int .i64 r13], .int .i64 r14]) ∧ Kd.R k144 53 w' w.heap.size (fun _ => True) v9_ r10 ∧ Kd.R k36 55 w' w.heap.size (fun _ => True) v10_ r11 ∧ Below w.heap.size w w' := by
  have Fa := Aside0.mk ha; clear ha
  replace h := Option.bind_eq_some_iff.mp h
  obtain ⟨⟨b, b1, b2, b3⟩, hb, h⟩ := h
  have Fb := Aside0.mk hb; clear hb
  replace h := Option.bind_eq_some_iff.mp h
  obtain ⟨⟨c, c1, c2, c3⟩, hc, h⟩ := h
  have Fc := Aside0.mk hc; clear hc
  unfold ofTail at h
  replace h := Option.bind_eq_some_iff.mp h
  obtain ⟨⟨e0, e1, e2, e3⟩, he, h⟩ := h
  have Fe := Aside0.mk he; clear he; have hu32 := Tryz.underlying33
  have B0 := Aside0.mk (below_alloc (Below.refl w.heap.size w) (.cells #[.int .i64 0, .int .i64 0, .int .i64 0, .int .i64 0, .int .i64 0, .string ⟨#[]⟩, .string ⟨#[]⟩, .string ⟨#[]⟩, .int .i64 0, (.slice none 0 0), (.slice none 0 0), .int .i64 0, .int .i64 0] 33))
  have Z0 := Aside0.mk (show IsRec (w.alloc (.cells #[.int .i64 0, .int .i64 0, .int .i64 0, .int .i64 0, .int .i64 0, .string ⟨#[]⟩, .string ⟨#[]⟩, .string ⟨#[]⟩, .int .i64 0, (.slice none 0 0), (.slice none 0 0), .int .i64 0, .int .i64 0] 33)) w.heap.size 0 0 0 0 0 ⟨#[]⟩ ⟨#[]⟩ ⟨#[]⟩ 0 (.slice none 0 0) (.slice none 0 0) 0 0 from blk_new w _)
  go_enter Tryz.func58, Tryz.ntmps58
  go_wp2_with fail
  refine (pack_Read.calls s s 0 0 w _ B0.out rfl).mono ?_
  rintro x W1 ⟨g, rfl, q1, q2, q3⟩
  have I1 := Aside0.mk q1; have B1 := Aside0.mk q2; have Z1 := Aside0.mk (IsRec.below Z0.out q3); clear q1 q2 q3 B0 Z0
  have GZ := Aside0.mk (show w.heap.size ≠ g from fun e => IsS124.ne_blk I1.out Z1.out (by decide) e.symm)
  go_wp2_with fail
  refine (pack_Reader_Num.calls g s 0 0 1 8 a1 a2 a3 w _ I1.out B1.out Fa.out).mono ?_
  rintro x W2 ⟨rfl, q1, q2, q3⟩
  have I2 := Aside0.mk q1; have B2 := Aside0.mk q2; have Z2 := Aside0.mk (IsRec.keep Z1.out q3 GZ.out); clear q1 q2 q3 I1 B1 Z1
  have R2 := Aside0.mk (show IsRec (W2.alloc (.cells #[.int .i64 8, .int .i64 0, .int .i64 0, .int .i64 0, .int .i64 0, .string ⟨#[]⟩, .string ⟨#[]⟩, .string ⟨#[]⟩, .int .i64 0, (.slice none 0 0), (.slice none 0 0), .int .i64 0, .int .i64 0] 33)) W2.heap.size 8 0 0 0 0 ⟨#[]⟩ ⟨#[]⟩ ⟨#[]⟩ 0 (.slice none 0 0) (.slice none 0 0) 0 0 from blk_new W2 _)
  have I2a := Aside0.mk (IsS124.alloc I2.out (.cells #[.int .i64 8, .int .i64 0, .int .i64 0, .int .i64 0, .int .i64 0, .string ⟨#[]⟩, .string ⟨#[]⟩, .string ⟨#[]⟩, .int .i64 0, (.slice none 0 0), (.slice none 0 0), .int .i64 0, .int .i64 0] 33))
  have B2a := Aside0.mk (below_alloc B2.out (.cells #[.int .i64 8, .int .i64 0, .int .i64 0, .int .i64 0, .int .i64 0, .string ⟨#[]⟩, .string ⟨#[]⟩, .string ⟨#[]⟩, .int .i64 0, (.slice none 0 0), (.slice none 0 0), .int .i64 0, .int .i64 0] 33))
  have Z2a := Aside0.mk (IsRec.below Z2.out (below_alloc (Below.refl _ _) (.cells #[.int .i64 8, .int .i64 0, .int .i64 0, .int .i64 0, .int .i64 0, .string ⟨#[]⟩, .string ⟨#[]⟩, .string ⟨#[]⟩, .int .i64 0, (.slice none 0 0), (.slice none 0 0), .int .i64 0, .int .i64 0] 33)))
  have HS := Aside0.mk (show w.heap.size < W2.heap.size from blk_lt Z2.out)
  have HG := Aside0.mk (show g < W2.heap.size from IsS124.lt I2.out)
  go_wp2_with fail
  refine (pack_Reader_Err.calls g a1 a2 a3 a3 a1 a2 a3 w _ I2a.out B2a.out rfl).mono ?_
  rintro x W3 ⟨rfl, q1, q2, q3⟩
  obtain ⟨h0, hh0⟩ : ∃ h0, h0 = W2.heap.size := ⟨_, rfl⟩
  rw [← hh0] at HS HG R2
  rw [← hh0]
  have I3 := Aside0.mk q1; have B3 := Aside0.mk q2; have Z3 := Aside0.mk (IsRec.keep Z2a.out q3 GZ.out)
  have R3 := Aside0.mk (IsRec.keep R2.out q3 (by have := HG.out; omega))
  clear q1 q2 q3 I2 B2 Z2 R2 I2a B2a Z2a hh0
  subst h3
  obtain ⟨zR3_0, zR3_1, zR3_2, zR3_3, zR3_4, zR3_5, zR3_6, zR3_7, zR3_8, zR3_9, zR3_10, zR3_11, zR3_12⟩ := IsRec.ats R3.out; obtain ⟨yR3_0, yR3_1, yR3_2, yR3_3, yR3_4, yR3_5, yR3_6, yR3_7, yR3_8, yR3_9, yR3_10, yR3_11, yR3_12⟩ := IsRec.frees R3.out
  have HB := Aside0.mk (show h0 < W3.heap.size from blk_lt R3.out)
  have N3 := Aside0.mk (show Rows2 W3 W3.heap.size W3.heap.size (.slice none 0 0) [] (.slice none 0 0) [] from Rows2.none _ _ (Nat.le_refl _))
  go_wp2_with fail
  refine (pack_Reader_Num.calls g a1 a2 0 6 b b1 b2 b3 w _ I3.out B3.out Fb.out).mono ?_
  rintro x W4 ⟨rfl, q1, q2, q3⟩
  have I4 := Aside0.mk q1; have B4 := Aside0.mk q2; have Z4 := Aside0.mk (IsRec.keep Z3.out q3 GZ.out)
  have R4 := Aside0.mk (IsRec.keep R3.out q3 (by have := HG.out; omega))
  obtain ⟨zR4_0, zR4_1, zR4_2, zR4_3, zR4_4, zR4_5, zR4_6, zR4_7, zR4_8, zR4_9, zR4_10, zR4_11, zR4_12⟩ := IsRec.ats R4.out; obtain ⟨yR4_0, yR4_1, yR4_2, yR4_3, yR4_4, yR4_5, yR4_6, yR4_7, yR4_8, yR4_9, yR4_10, yR4_11, yR4_12⟩ := IsRec.frees R4.out
  have N4 := Aside0.mk (Rows2.keep N3.out q3 (show g < W3.heap.size by have := HG.out; have := HB.out; omega))
  clear q1 q2 q3
  go_wp2_with fail
  refine (pack_Reader_Num.calls g b1 b2 b3 6 c c1 c2 c3 w _ I4.out B4.out Fc.out).mono ?_
  rintro x W5 ⟨rfl, q1, q2, q3⟩
  have I5 := Aside0.mk q1; have B5 := Aside0.mk q2; have Z5 := Aside0.mk (IsRec.keep Z4.out q3 GZ.out)
  have R5 := Aside0.mk (IsRec.keep R4.out q3 (by have := HG.out; omega))
  obtain ⟨zR5_0, zR5_1, zR5_2, zR5_3, zR5_4, zR5_5, zR5_6, zR5_7, zR5_8, zR5_9, zR5_10, zR5_11, zR5_12⟩ := IsRec.ats R5.out; obtain ⟨yR5_0, yR5_1, yR5_2, yR5_3, yR5_4, yR5_5, yR5_6, yR5_7, yR5_8, yR5_9, yR5_10, yR5_11, yR5_12⟩ := IsRec.frees R5.out
  have N5 := Aside0.mk (Rows2.keep N4.out q3 (show g < W3.heap.size by have := HG.out; have := HB.out; omega))
  clear q1 q2 q3
  go_wp2_with fail
  refine (pack_Reader_End.calls g c1 c2 c3 e0 e1 e2 e3 w _ (IsS124.far (IsS124.far I5.out (by show g ≠ h0; have := HG.out; omega) _) (by show g ≠ h0; have := HG.out; omega) _) (below_set (below_set B5.out (by have := HS.out; omega)) (by have := HS.out; omega)) Fe.out).mono ?_
  rintro x W6 ⟨rfl, q1, q2, q3⟩
  have I6 := Aside0.mk q1; have B6 := Aside0.mk q2
  have Z6 := Aside0.mk (IsRec.keep (IsRec.farH (IsRec.farH Z5.out (by show w.heap.size ≠ h0; have := HS.out; omega) _) (by show w.heap.size ≠ h0; have := HS.out; omega) _) q3 GZ.out)
  have R6 := Aside0.mk (IsRec.keep (IsRec.set_2 (IsRec.set_1 R5.out b) c) q3 (by have := HG.out; omega))
  obtain ⟨zR6_0, zR6_1, zR6_2, zR6_3, zR6_4, zR6_5, zR6_6, zR6_7, zR6_8, zR6_9, zR6_10, zR6_11, zR6_12⟩ := IsRec.ats R6.out; obtain ⟨yR6_0, yR6_1, yR6_2, yR6_3, yR6_4, yR6_5, yR6_6, yR6_7, yR6_8, yR6_9, yR6_10, yR6_11, yR6_12⟩ := IsRec.frees R6.out
  have Q6 := Aside0.mk (Rows2.keep (Rows2.set (Rows2.set N5.out (show h0 < W3.heap.size from HB.out)) (show h0 < W3.heap.size from HB.out)) q3 (show g < W3.heap.size by have := HG.out; have := HB.out; omega))
  clear q1 q2 q3
  by_cases he : e0 = 0
  · subst he
    rw [if_pos rfl] at h
    replace h := Option.bind_eq_some_iff.mp h
    obtain ⟨⟨b0, b1⟩, hb, h⟩ := h
    have Fb := Aside0.mk hb; clear hb
    have hc9 := (Kd.R_reads' Q6.out.1).2.1
    have hC9 := (Kd.R_reads' Q6.out.1).2.2
    have hc10 := (Kd.R_reads' Q6.out.2.1).2.1
    have hC10 := (Kd.R_reads' Q6.out.2.1).2.2
    have C9 := Aside0.mk hC9; have C10 := Aside0.mk hC10; clear hC9 hC10
    go_wp2_with fail
    refine (rec_body.calls 8 b c 0 0 ⟨#[]⟩ ⟨#[]⟩ ⟨#[]⟩ 0 none 0 ([] : List S144) none 0 ([] : List S36) 0 0 b0 b1 _ C9.out hc9 C10.out hc10 Fb.out).mono ?_
    rintro x W7 ⟨rfl, q⟩
    have B7 := Aside0.mk (below_step B6.out q); have Z7 := Aside0.mk (IsRec.below Z6.out q); have R7 := Aside0.mk (IsRec.below R6.out q); have Q7 := Aside0.mk (Rows2.below Q6.out q); clear q; clear zR6_0 yR6_0 zR6_1 yR6_1 zR6_2 yR6_2 zR6_3 yR6_3 zR6_4 yR6_4 zR6_5 yR6_5 zR6_6 yR6_6 zR6_7 yR6_7 zR6_8 yR6_8 zR6_9 yR6_9 zR6_10 yR6_10 zR6_11 yR6_11 zR6_12 yR6_12
    by_cases hb1 : b1 = 0
    · subst hb1
      rw [if_pos rfl] at h
      by_cases hs : b0.toList = s.toList
      · rw [if_pos hs] at h
        simp only [Option.some.injEq, Prod.mk.injEq] at h
        obtain ⟨rfl, rfl, rfl, rfl, rfl, rfl, rfl, rfl, rfl, rfl, rfl, rfl, rfl, rfl⟩ := h
        have u0 : (b0.toList == s.toList) = true := beq_iff_eq.mpr hs
        have u1 : (b0.toList != s.toList) = false := bne_eq_false_iff_eq.mpr hs
        obtain ⟨zR7_0, zR7_1, zR7_2, zR7_3, zR7_4, zR7_5, zR7_6, zR7_7, zR7_8, zR7_9, zR7_10, zR7_11, zR7_12⟩ := IsRec.ats R7.out; obtain ⟨yR7_0, yR7_1, yR7_2, yR7_3, yR7_4, yR7_5, yR7_6, yR7_7, yR7_8, yR7_9, yR7_10, yR7_11, yR7_12⟩ := IsRec.frees R7.out; obtain ⟨zZ7_0, zZ7_1, zZ7_2, zZ7_3, zZ7_4, zZ7_5, zZ7_6, zZ7_7, zZ7_8, zZ7_9, zZ7_10, zZ7_11, zZ7_12⟩ := IsRec.ats Z7.out; obtain ⟨yZ7_0, yZ7_1, yZ7_2, yZ7_3, yZ7_4, yZ7_5, yZ7_6, yZ7_7, yZ7_8, yZ7_9, yZ7_10, yZ7_11, yZ7_12⟩ := IsRec.frees Z7.out
        go_wp2_with fail
        have ZZ := (IsRec.sets13 Z7.out 8 b c 0 0 ⟨#[]⟩ ⟨#[]⟩ ⟨#[]⟩ 0 (.slice none 0 0) (.slice none 0 0) 0 0)
        have QQ := Rows2.done (b := w.heap.size) (Rows2.sets13 Q7.out (show w.heap.size < W3.heap.size by have := HS.out; have := HB.out; omega) (.int .i64 8) (.int .i64 b) (.int .i64 c) (.int .i64 0) (.int .i64 0) (.string ⟨#[]⟩) (.string ⟨#[]⟩) (.string ⟨#[]⟩) (.int .i64 0) (.slice none 0 0) (.slice none 0 0) (.int .i64 0) (.int .i64 0)) (show w.heap.size ≤ W3.heap.size by have := HS.out; have := HB.out; omega)
        (try simp only [Exit.inBlock, Exit.then])
        refine bodyPost_ret (results_ct rfl _ _ w.heap.size 33 #[.int .i64 8, .int .i64 b, .int .i64 c, .int .i64 0, .int .i64 0, .string ⟨#[]⟩, .string ⟨#[]⟩, .string ⟨#[]⟩, .int .i64 0, (.slice none 0 0), (.slice none 0 0), .int .i64 0, .int .i64 0] (0, 0) _ rfl ZZ hu32 rfl (by kernel_rfl)) rfl ?_
        exact ⟨_, _, rfl, QQ.1, QQ.2, (below13 B7.out (Nat.le_refl _))⟩
      · rw [if_neg hs] at h
        unfold noRec at h
        simp only [Option.some.injEq, Prod.mk.injEq] at h
        obtain ⟨rfl, rfl, rfl, rfl, rfl, rfl, rfl, rfl, rfl, rfl, rfl, rfl, rfl, rfl⟩ := h
        have u0 : (b0.toList == s.toList) = false := beq_eq_false_iff_ne.mpr hs
        have u1 : (b0.toList != s.toList) = true := bne_iff_ne.mpr hs
        obtain ⟨zZ7_0, zZ7_1, zZ7_2, zZ7_3, zZ7_4, zZ7_5, zZ7_6, zZ7_7, zZ7_8, zZ7_9, zZ7_10, zZ7_11, zZ7_12⟩ := IsRec.ats Z7.out; obtain ⟨yZ7_0, yZ7_1, yZ7_2, yZ7_3, yZ7_4, yZ7_5, yZ7_6, yZ7_7, yZ7_8, yZ7_9, yZ7_10, yZ7_11, yZ7_12⟩ := IsRec.frees Z7.out
        go_wp2_with fail
        have ZZ := (IsRec.sets13 Z7.out 0 0 0 0 0 ⟨#[]⟩ ⟨#[]⟩ ⟨#[]⟩ 0 (.slice none 0 0) (.slice none 0 0) 0 0)
        (try simp only [Exit.inBlock, Exit.then])
        refine bodyPost_ret (results_ct rfl _ _ w.heap.size 33 #[.int .i64 0, .int .i64 0, .int .i64 0, .int .i64 0, .int .i64 0, .string ⟨#[]⟩, .string ⟨#[]⟩, .string ⟨#[]⟩, .int .i64 0, (.slice none 0 0), (.slice none 0 0), .int .i64 0, .int .i64 0] (0, 0) _ rfl ZZ hu32 rfl (by kernel_rfl)) rfl ?_
        exact ⟨_, _, rfl, Kd.R_nil _ _ _ _ _, Kd.R_nil _ _ _ _ _, (below13 B7.out (Nat.le_refl _))⟩
    · rw [if_neg hb1] at h
      have u0 : (b1 == 0) = false := beq_eq_false_iff_ne.mpr hb1
      have u1 : (b1 != 0) = true := bne_iff_ne.mpr hb1
      unfold noRec at h
      simp only [Option.some.injEq, Prod.mk.injEq] at h
      obtain ⟨rfl, rfl, rfl, rfl, rfl, rfl, rfl, rfl, rfl, rfl, rfl, rfl, rfl, rfl⟩ := h
      obtain ⟨zZ7_0, zZ7_1, zZ7_2, zZ7_3, zZ7_4, zZ7_5, zZ7_6, zZ7_7, zZ7_8, zZ7_9, zZ7_10, zZ7_11, zZ7_12⟩ := IsRec.ats Z7.out; obtain ⟨yZ7_0, yZ7_1, yZ7_2, yZ7_3, yZ7_4, yZ7_5, yZ7_6, yZ7_7, yZ7_8, yZ7_9, yZ7_10, yZ7_11, yZ7_12⟩ := IsRec.frees Z7.out
      go_wp2_with fail
      have ZZ := (IsRec.sets13 Z7.out 0 0 0 0 0 ⟨#[]⟩ ⟨#[]⟩ ⟨#[]⟩ 0 (.slice none 0 0) (.slice none 0 0) 0 0)
      (try simp only [Exit.inBlock, Exit.then])
      refine bodyPost_ret (results_ct rfl _ _ w.heap.size 33 #[.int .i64 0, .int .i64 0, .int .i64 0, .int .i64 0, .int .i64 0, .string ⟨#[]⟩, .string ⟨#[]⟩, .string ⟨#[]⟩, .int .i64 0, (.slice none 0 0), (.slice none 0 0), .int .i64 0, .int .i64 0] (0, 0) _ rfl ZZ hu32 rfl (by kernel_rfl)) rfl ?_
      exact ⟨_, _, rfl, Kd.R_nil _ _ _ _ _, Kd.R_nil _ _ _ _ _, (below13 B7.out (Nat.le_refl _))⟩
  · rw [if_neg he] at h
    have u0 : (e0 == 0) = false := beq_eq_false_iff_ne.mpr he
    have u1 : (e0 != 0) = true := bne_iff_ne.mpr he
    unfold noRec at h
    simp only [Option.some.injEq, Prod.mk.injEq] at h
    obtain ⟨rfl, rfl, rfl, rfl, rfl, rfl, rfl, rfl, rfl, rfl, rfl, rfl, rfl, rfl⟩ := h
    obtain ⟨zZ6_0, zZ6_1, zZ6_2, zZ6_3, zZ6_4, zZ6_5, zZ6_6, zZ6_7, zZ6_8, zZ6_9, zZ6_10, zZ6_11, zZ6_12⟩ := IsRec.ats Z6.out; obtain ⟨yZ6_0, yZ6_1, yZ6_2, yZ6_3, yZ6_4, yZ6_5, yZ6_6, yZ6_7, yZ6_8, yZ6_9, yZ6_10, yZ6_11, yZ6_12⟩ := IsRec.frees Z6.out
    go_wp2_with fail
    have ZZ := (IsRec.sets13 Z6.out 0 0 0 0 0 ⟨#[]⟩ ⟨#[]⟩ ⟨#[]⟩ 0 (.slice none 0 0) (.slice none 0 0) 0 0)
    (try simp only [Exit.inBlock, Exit.then])
    refine bodyPost_ret (results_ct rfl _ _ w.heap.size 33 #[.int .i64 0, .int .i64 0, .int .i64 0, .int .i64 0, .int .i64 0, .string ⟨#[]⟩, .string ⟨#[]⟩, .string ⟨#[]⟩, .int .i64 0, (.slice none 0 0), (.slice none 0 0), .int .i64 0, .int .i64 0] (0, 0) _ rfl ZZ hu32 rfl (by kernel_rfl)) rfl ?_
    exact ⟨_, _, rfl, Kd.R_nil _ _ _ _ _, Kd.R_nil _ _ _ _ _, (below13 B6.out (Nat.le_refl _))⟩
end Go.Proofs.YteoebfiacnploaaGreatDoor.HRec
