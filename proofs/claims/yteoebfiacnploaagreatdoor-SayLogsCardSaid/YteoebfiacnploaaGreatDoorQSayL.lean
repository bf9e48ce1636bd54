/- The contract of the law's line: a record's line. It proves no statement. -/
import Derived.Test.YteoebfiacnploaaGreatDoorQG6
import Derived.Test.YteoebfiacnploaaGreatDoorQG10
import Derived.Test.YteoebfiacnploaaGreatDoorQPureTot
import Derived.Deep.DeepCutAuto
import Derived.Deep.LoopGhost
namespace Go.Proofs.YteoebfiacnploaaGreatDoor.HRec
open Go.RowKit Go.Proofs.YteoebfiacnploaaGreatDoorW.PrintWords Go.Proofs.YteoebfiacnploaaGreatDoorW.PrintLast Go.Proofs.YteoebfiacnploaaGreatDoorW.PrintMore Go.Proofs.YteoebfiacnploaaGreatDoor.SayPure
set_option linter.unusedVariables false
set_option linter.unusedSimpArgs false
def imgB (l : List S144) (s : ByteArray) : ByteArray := l.foldl (fun s m => (s ++ ⟨#[32]⟩) ++ lowB m.f0) s
def tabB (l : List S36) (s : ByteArray) : ByteArray := l.foldl (fun s a => (((s ++ ⟨#[32]⟩) ++ lowB a.f0) ++ ⟨#[32]⟩) ++ lowB a.f1) s
def stT (y1 y2 : Int) (s : ByteArray) : ByteArray := if 0 < y1 then (((s ++ ⟨#[32, 116, 120, 110, 32]⟩) ++ lowB y1) ++ ⟨#[32, 112, 114, 101, 118, 32]⟩) ++ lowB y2 else s
def stC (y0 y3 : Int) (k o n s : ByteArray) : ByteArray := if 3 ≤ y0 ∧ y0 ≤ 5 then s ++ turnB y3 k o n y0 else s
def stU (y0 y3 y4 y8 : Int) (k o n s : ByteArray) : ByteArray := if y0 = 6 then ((((s ++ ⟨#[32, 110, 101, 120, 116, 32]⟩) ++ lowB y8) ++ ⟨#[32]⟩) ++ nameB y4) ++ turnB y3 k o n y4 else s
def stE (y0 y11 y12 : Int) (s : ByteArray) : ByteArray := if y0 = 10 then (((s ++ ⟨#[32]⟩) ++ lowB y11) ++ ⟨#[32]⟩) ++ lowB y12 else s
def lineB (y : RecT) (q : Int) : ByteArray := stE y.1 y.2.2.2.2.2.2.2.2.2.2.2.1 y.2.2.2.2.2.2.2.2.2.2.2.2 (stU y.1 y.2.2.2.1 y.2.2.2.2.1 y.2.2.2.2.2.2.2.2.1 y.2.2.2.2.2.1 y.2.2.2.2.2.2.1 y.2.2.2.2.2.2.2.1 (stC y.1 y.2.2.2.1 y.2.2.2.2.2.1 y.2.2.2.2.2.2.1 y.2.2.2.2.2.2.2.1 (tabB y.2.2.2.2.2.2.2.2.2.2.1 (imgB y.2.2.2.2.2.2.2.2.2.1 (stT y.2.1 y.2.2.1 ((lowB q ++ ⟨#[32]⟩) ++ nameB y.1))))))
theorem imgB_step (l : List S144) (i : Int) (s : ByteArray) (h0 : 0 ≤ i) (hi : i < l.length) : imgB (l.drop i.toNat) s = imgB (l.drop (i + 1).toNat) ((s ++ ⟨#[32]⟩) ++ lowB (rd_T144 l i).f0) := by
  have h : i.toNat < l.length := by omega
  rw [List.drop_eq_getElem_cons h, show (i + 1).toNat = i.toNat + 1 from by omega]
  unfold rd_T144
  rw [List.getD_eq_getElem?_getD, List.getElem?_eq_getElem h]
  rfl
theorem tabB_step (l : List S36) (i : Int) (s : ByteArray) (h0 : 0 ≤ i) (hi : i < l.length) : tabB (l.drop i.toNat) s = tabB (l.drop (i + 1).toNat) ((((s ++ ⟨#[32]⟩) ++ lowB (rd_T36 l i).f0) ++ ⟨#[32]⟩) ++ lowB (rd_T36 l i).f1) := by
  have h : i.toNat < l.length := by omega
  rw [List.drop_eq_getElem_cons h, show (i + 1).toNat = i.toNat + 1 from by omega]
  unfold rd_T36
  rw [List.getD_eq_getElem?_getD, List.getElem?_eq_getElem h]
  rfl
theorem clean_small {x0 x1 x2 x3 x4 : Int} {k o n : ByteArray} {x8 : Int} {l9 : List S144} {l10 : List S36} {x11 x12 : Int} {m a : Nat} (hk : k.size ≤ m) (ho : o.size ≤ m) (hn : n.size ≤ m) (h9 : l9.length ≤ a) (h10 : l10.length ≤ a) {y : RecT} (hy : cleanR x0 x1 x2 x3 x4 k o n x8 l9 l10 x11 x12 = y) :
    y.2.2.2.2.2.1.size ≤ m ∧ y.2.2.2.2.2.2.1.size ≤ m ∧ y.2.2.2.2.2.2.2.1.size ≤ m ∧ y.2.2.2.2.2.2.2.2.2.1.length ≤ a ∧ y.2.2.2.2.2.2.2.2.2.2.1.length ≤ a := by
  have e : (⟨#[]⟩ : ByteArray).size = 0 := rfl
  have en : ([] : List S144).length = 0 := rfl
  have em : ([] : List S36).length = 0 := rfl
  subst hy
  unfold cleanR
  split
  · refine ⟨?_, ?_, ?_, ?_, ?_⟩ <;> dsimp only <;> omega
  split
  · refine ⟨?_, ?_, ?_, ?_, ?_⟩ <;> dsimp only <;> (try split) <;> omega
  split
  · refine ⟨?_, ?_, ?_, ?_, ?_⟩ <;> dsimp only <;> (try split) <;> omega
  split
  · refine ⟨?_, ?_, ?_, ?_, ?_⟩ <;> dsimp only <;> omega
  split
  · refine ⟨?_, ?_, ?_, ?_, ?_⟩ <;> dsimp only <;> omega
  split
  · refine ⟨?_, ?_, ?_, ?_, ?_⟩ <;> dsimp only <;> omega
  · refine ⟨?_, ?_, ?_, ?_, ?_⟩ <;> dsimp only <;> omega
def law_line.T2 : Bool × List (List Nat × List Nat) := (true, [([], []), ([0], [0]), ([1], [1]), ([], []), ([3], [3]), ([4, 1], [4]), ([2, 5], [2, 5]), ([6, 5, 0, 1, 2, 3, 4, 5, 6], [6])])
def law_line.B2 : List Nat := [0, 1, 3, 0, 8, 27, 63, 127]
theorem law_line.tab2 : rtab .any (opsOf Tryz.f6 2) = law_line.T2 := by kernel_rfl
theorem law_line.bits2 : waitsOk law_line.T2.2 law_line.B2 = true := by kernel_rfl
def law_line.T4 : Bool × List (List Nat × List Nat) := (true, [([], []), ([0], [0]), ([], []), ([2], [2]), ([3], [3]), ([1, 4], [1, 4]), ([5], [5]), ([], []), ([7], [7]), ([8, 4], [8]), ([6, 9], [6, 9]), ([10, 9, 0, 1, 2, 3, 4, 5, 6, 7, 8, 9, 10], [0, 10])])
def law_line.B4 : List Nat := [0, 1, 0, 4, 12, 31, 63, 0, 128, 412, 1023, 2047]
theorem law_line.tab4 : rtab .any (opsOf Tryz.f6 4) = law_line.T4 := by kernel_rfl
theorem law_line.bits4 : waitsOk law_line.T4.2 law_line.B4 = true := by kernel_rfl
def law_line.T12 : Bool × List (List Nat × List Nat) := (true, [([], []), ([0], [0]), ([], []), ([2], [2]), ([], []), ([3, 4], [3, 4]), ([5], [5]), ([6], [6]), ([7], [7]), ([1, 8], [1, 8]), ([9], [9]), ([], []), ([11], [11]), ([], []), ([12, 13], [12, 13]), ([14], [14]), ([15], [15]), ([16, 8], [16]), ([10, 17], [10, 17]), ([18, 17, 0, 1, 2, 3, 4, 5, 6, 7, 8, 9, 10, 11, 12, 13, 14, 15, 16, 17, 18], [0, 18])])
def law_line.B12 : List Nat := [0, 1, 0, 4, 0, 28, 60, 124, 252, 511, 1023, 0, 2048, 0, 14336, 30720, 63488, 129532, 262143, 524287]
theorem law_line.tab12 : rtab .any (opsOf Tryz.f6 12) = law_line.T12 := by kernel_rfl
theorem law_line.bits12 : waitsOk law_line.T12.2 law_line.B12 = true := by kernel_rfl
def law_line.T16 : Bool × List (List Nat × List Nat) := (true, [([], []), ([0], [0]), ([], []), ([2], [2]), ([3], [3]), ([1, 4], [1, 4]), ([5], [5]), ([], []), ([7], [7]), ([8, 4], [8]), ([6, 9], [6, 9]), ([], []), ([], []), ([12], [12]), ([11, 13, 9], [11, 13]), ([10, 14], [10, 14]), ([15, 14, 0, 1, 2, 3, 4, 5, 6, 7, 8, 9, 10, 11, 12, 13, 14, 15], [0, 15])])
def law_line.B16 : List Nat := [0, 1, 0, 4, 12, 31, 63, 0, 128, 412, 1023, 0, 0, 4096, 15260, 32767, 65535]
theorem law_line.tab16 : rtab .any (opsOf Tryz.f6 16) = law_line.T16 := by kernel_rfl
theorem law_line.bits16 : waitsOk law_line.T16.2 law_line.B16 = true := by kernel_rfl
def law_line.T18 : Bool × List (List Nat × List Nat) := (true, [([], []), ([0], [0]), ([], []), ([2], [2]), ([3], [3]), ([1, 4], [1, 4]), ([5], [5]), ([], []), ([7], [7]), ([8, 4], [8]), ([6, 9], [6, 9]), ([10, 9, 0, 1, 2, 3, 4, 5, 6, 7, 8, 9, 10], [0, 10])])
def law_line.B18 : List Nat := [0, 1, 0, 4, 12, 31, 63, 0, 128, 412, 1023, 2047]
theorem law_line.tab18 : rtab .any (opsOf Tryz.f6 18) = law_line.T18 := by kernel_rfl
theorem law_line.bits18 : waitsOk law_line.T18.2 law_line.B18 = true := by kernel_rfl
set_option maxHeartbeats 16000000 in
set_option maxRecDepth 100000 in
theorem law_line (x0 x1 x2 x3 x4 : Int) (k o n : ByteArray) (x8 : Int) (A9 : Option Addr) (c9 : Nat) (l9 : List S144) (A10 : Option Addr) (c10 : Nat) (l10 : List S36) (x11 x12 q : Int) (w : World) (hr9 : Kd.C k144 w A9 l9.length l9) (hc9 : l9.length ≤ c9) (hr10 : Kd.C k36 w A10 l10.length l10) (hc10 : l10.length ≤ c10) (hk : k.size ≤ 1000000) (ho : o.size ≤ 1000000) (hn : n.size ≤ 1000000) (h9 : l9.length ≤ 300) (h10 : l10.length ≤ 300) :
    Calls Tryz.prog 6 #[.agg #[.int .i64 x0, .int .i64 x1, .int .i64 x2, .int .i64 x3, .int .i64 x4, .string k, .string o, .string n, .int .i64 x8, .slice A9 l9.length c9, .slice A10 l10.length c10, .int .i64 x11, .int .i64 x12], .int .i64 q] w fun e w' => e = .returned (.string (lineB (cleanR x0 x1 x2 x3 x4 k o n x8 l9 l10 x11 x12) q)) ∧ Below w.heap.size w w' := by
  obtain ⟨W1, hW1⟩ : ∃ W1, W1 = w.alloc (.cells #[.int .i64 x0, .int .i64 x1, .int .i64 x2, .int .i64 x3, .int .i64 x4, .string k, .string o, .string n, .int .i64 x8, .slice A9 l9.length c9, .slice A10 l10.length c10, .int .i64 x11, .int .i64 x12] 33) := ⟨_, rfl⟩
  have RR : Aside0 (IsRec W1 w.heap.size x0 x1 x2 x3 x4 k o n x8 (.slice A9 l9.length c9) (.slice A10 l10.length c10) x11 x12) := ⟨by rw [hW1]; exact blk_new w _⟩
  have BB : Aside0 (Below w.heap.size w W1) := ⟨by rw [hW1]; exact below_alloc (Below.refl _ _) _⟩
  have HC := Aside0.mk (ref_Clean x0 x1 x2 x3 x4 k o n x8 A9 c9 l9 A10 c10 l10 x11 x12 W1 (Kd.C_below hr9 BB.out) hc9 (Kd.C_below hr10 BB.out) hc10)
  obtain ⟨y, hy⟩ : ∃ y, cleanR x0 x1 x2 x3 x4 k o n x8 l9 l10 x11 x12 = y := ⟨_, rfl⟩
  have HS := Aside0.mk (clean_small hk ho hn h9 h10 hy)
  rw [hy] at HC ⊢
  obtain ⟨T, hT⟩ : ∃ T, T = lineB y q := ⟨_, rfl⟩
  rw [← hT]
  have TT := Aside0.mk hT; clear hk ho hn h9 h10 hr9 hc9 hr10 hc10 hy hT
  go_enter Tryz.func6, Tryz.ntmps6
  go_upto_region 1 with fail
  rw [← hW1]
  clear hW1
  obtain ⟨z0, z1, z2, z3, z4, z5, z6, z7, z8, z9, z10, z11, z12, z13, z14, z15, z16, z17, z18, z19, z20, z21, z22, z23, z24, z25⟩ := IsRec.all13 RR.out
  go_wp2_with fail
  refine HC.out.mono ?_
  clear z0 z1 z2 z3 z4 z5 z6 z7 z8 z9 z10 z11 z12 z13 z14 z15 z16 z17 z18 z19 z20 z21 z22 z23 z24 z25 HC RR
  rintro e w2 ⟨v, rfl, ⟨B9, d9, B10, d10, rfl, q9, p9, q10, p10⟩, hb⟩
  obtain ⟨y0, y1, y2, y3, y4, y5, y6, y7, y8, m9, m10, y11, y12⟩ := y
  dsimp only at q9 p9 q10 p10 HS TT ⊢
  have Q9 := Aside0.mk (And.intro (Kd.C_below q9 hb) p9); have Q10 := Aside0.mk (And.intro (Kd.C_below q10 hb) p10); have B2 := Aside0.mk (below_step BB.out hb); clear q9 p9 q10 p10 hb BB
  go_upto_region 2 with fail
  obtain ⟨g, hg⟩ : ∃ g, g = w2.heap.size := ⟨_, rfl⟩
  have ry := blk_new w2 (.cells #[.int .i64 y0, .int .i64 y1, .int .i64 y2, .int .i64 y3, .int .i64 y4, .string y5, .string y6, .string y7, .int .i64 y8, .slice B9 m9.length d9, .slice B10 m10.length d10, .int .i64 y11, .int .i64 y12] 33)
  have b3 := below_alloc B2.out (.cells #[.int .i64 y0, .int .i64 y1, .int .i64 y2, .int .i64 y3, .int .i64 y4, .string y5, .string y6, .string y7, .int .i64 y8, .slice B9 m9.length d9, .slice B10 m10.length d10, .int .i64 y11, .int .i64 y12] 33)
  have q9 := Kd.C_below Q9.out.1 (below_alloc (Below.refl w2.heap.size w2) (.cells #[.int .i64 y0, .int .i64 y1, .int .i64 y2, .int .i64 y3, .int .i64 y4, .string y5, .string y6, .string y7, .int .i64 y8, .slice B9 m9.length d9, .slice B10 m10.length d10, .int .i64 y11, .int .i64 y12] 33))
  have q10 := Kd.C_below Q10.out.1 (below_alloc (Below.refl w2.heap.size w2) (.cells #[.int .i64 y0, .int .i64 y1, .int .i64 y2, .int .i64 y3, .int .i64 y4, .string y5, .string y6, .string y7, .int .i64 y8, .slice B9 m9.length d9, .slice B10 m10.length d10, .int .i64 y11, .int .i64 y12] 33))
  clear Q9 Q10 B2
  rw [← hg] at ry ⊢
  clear hg
  generalize w2.alloc (.cells #[.int .i64 y0, .int .i64 y1, .int .i64 y2, .int .i64 y3, .int .i64 y4, .string y5, .string y6, .string y7, .int .i64 y8, .slice B9 m9.length d9, .slice B10 m10.length d10, .int .i64 y11, .int .i64 y12] 33) = W3 at ry b3 q9 q10 ⊢
  have RY : Aside0 (IsRec W3 g y0 y1 y2 y3 y4 y5 y6 y7 y8 (.slice B9 m9.length d9) (.slice B10 m10.length d10) y11 y12) := ⟨ry⟩
  have B3 := Aside0.mk b3; have Q9 := Aside0.mk q9; have Q10 := Aside0.mk q10; have HB := Aside0.mk (Below.refl W3.heap.size W3); clear ry b3 q9 q10
  refine start_ (n := 8) (S := fun w' => Below W3.drew.heap.size W3.drew w') (ds := []) #[false, false, false, false, false, false, false, false] (by kernel_rfl) rfl rfl (Below.refl _ _) (fun hHeld => ?_); refine with_tabW law_line.tab2 law_line.bits2 (fun HT_ HW_ => ?_)
  refine ord_ [0, 3, 4, 1, 2, 5, 6, 7] ?_
  have HB0 := Aside0.mk (below_drew HB.out); have R0 := Aside0.mk (IsRec.below RY.out HB0.out); clear HB
  generalize W3.drew = U0 at R0 HB0 hHeld ⊢
  have u0 : (9223372036854775807 < (lowB q).size + 1) = False := eq_false (Nat.not_lt.2 (by have := lowB_size q; have := nameB_size y0; omega))
  have u1 : (9223372036854775807 < (lowB q).size + 1 + (nameB y0).size) = False := eq_false (Nat.not_lt.2 (by have := lowB_size q; have := nameB_size y0; omega))
  iterate 3
    first
    | refine ordP (v := ?_) (a' := ?_) HT_ rfl rfl (by kernel_rfl) (fun _ _ _ h => h) (.inl ⟨by rfl, ?_⟩) ?_ ?_
      rotate_left
      · intro w'
        go_simp
        with_reducible rfl
      rotate_left
      · simp only [Act.put, List.setIfInBounds_toArray, List.set_cons_zero, List.set_cons_succ, i64_w, i32_w]
        rfl
    | refine ordT (v := ?_) (a' := ?_) HT_ HW_ rfl rfl (by kernel_rfl) (fun _ _ _ h => h) (.inl ⟨by rfl, ?_⟩) hHeld ?_ ?_
      rotate_left
      · intro w' hs
        obtain ⟨s0, s1, s2, s3, s4, s5, s6, s7, s8, s9, s10, s11, s12, _⟩ := IsRec.all13 (IsRec.below R0.out hs)
        go_simp
        with_reducible rfl
      rotate_left
      · simp only [Act.put, List.setIfInBounds_toArray, List.set_cons_zero, List.set_cons_succ, i64_w, i32_w]
        rfl
  refine ord1 (N := some 12) HT_ rfl rfl (by kernel_rfl) (by decide) (fun K hK => ?_)
  refine goes_ Tryz.func16 (by kernel_rfl) rfl #[.int .i64 q] (by rfl) rfl rfl (by (try simp only [List.map_toArray, List.map_cons, List.map_nil]); rfl) ?_
  refine (law_low q U0).mono ?_
  rintro e U1 ⟨rfl, hb⟩
  refine ⟨_, rfl, ?_⟩
  refine hK.out _ _ (below_step hHeld hb) (fun hHeld2 => ?_)
  clear hK K hb hHeld; have hHeld := hHeld2; clear hHeld2
  refine ordN (a' := ?_) ?_ ?_
  rotate_left
  · simp only [Act.put, List.setIfInBounds_toArray, List.set_cons_zero, List.set_cons_succ]
    rfl
  refine ordP (v := ?_) (a' := ?_) HT_ rfl rfl (by kernel_rfl) (fun _ _ _ h => h) (.inl ⟨by rfl, ?_⟩) ?_ ?_
  rotate_left
  · intro w'
    go_simp
    with_reducible rfl
  rotate_left
  · simp only [Act.put, List.setIfInBounds_toArray, List.set_cons_zero, List.set_cons_succ, i64_w, i32_w]
    rfl
  refine ord1 (N := some 16) HT_ rfl rfl (by kernel_rfl) (by decide) (fun K hK => ?_)
  refine goes_ Tryz.func17 (by kernel_rfl) rfl #[.int .i64 y0] (by rfl) rfl rfl (by (try simp only [List.map_toArray, List.map_cons, List.map_nil]); rfl) ?_
  refine (law_name y0 U1).mono ?_
  rintro e U2 ⟨rfl, hb⟩
  refine ⟨_, rfl, ?_⟩
  refine hK.out _ _ (below_step hHeld hb) (fun hHeld2 => ?_)
  clear hK K hb hHeld; have hHeld := hHeld2; clear hHeld2
  refine ordN (a' := ?_) ?_ ?_
  rotate_left
  · simp only [Act.put, List.setIfInBounds_toArray, List.set_cons_zero, List.set_cons_succ]
    rfl
  iterate 2
    refine ordP (v := ?_) (a' := ?_) HT_ rfl rfl (by kernel_rfl) (fun _ _ _ h => h) (.inl ⟨by rfl, ?_⟩) ?_ ?_
    rotate_left
    · intro w'
      go_simp
      with_reducible rfl
    rotate_left
    · simp only [Act.put, List.setIfInBounds_toArray, List.set_cons_zero, List.set_cons_succ, i64_w, i32_w]
      rfl
  refine ordD HT_ (by kernel_rfl) ?_
  have HB := Aside0.mk (below_step HB0.out hHeld); clear hHeld R0 HB0 HT_ HW_ u0 u1 
  obtain ⟨s, hs⟩ : ∃ s, s = (lowB q ++ ⟨#[32]⟩) ++ nameB y0 := ⟨_, rfl⟩
  have hT : T = stE y0 y11 y12 (stU y0 y3 y4 y8 y5 y6 y7 (stC y0 y3 y5 y6 y7 (tabB m10 (imgB m9 (stT y1 y2 s))))) := by rw [hs]; exact TT.out
  have hz : s.size ≤ 40 := by
    rw [hs, app_size, app_size]
    have h1 : (⟨#[32]⟩ : ByteArray).size = 1 := rfl
    have := lowB_size q
    have := nameB_size y0
    omega
  rw [← hs]
  have HT := Aside0.mk hT; have HZ := Aside0.mk hz; clear hs hT hz TT
  obtain ⟨z0, z1, z2, z3, z4, z5, z6, z7, z8, z9, z10, z11, z12, z13, z14, z15, z16, z17, z18, z19, z20, z21, z22, z23, z24, z25⟩ := IsRec.all13 (IsRec.below RY.out HB.out)
  go_upto_if 20 with fail
  clear z0 z1 z2 z3 z4 z5 z6 z7 z8 z9 z10 z11 z12 z13 z14 z15 z16 z17 z18 z19 z20 z21 z22 z23 z24 z25
  go_cut [6] (fun v6 wc => ∃ s : ByteArray, v6 = .string s ∧ Aside0 (T = stE y0 y11 y12 (stU y0 y3 y4 y8 y5 y6 y7 (stC y0 y3 y5 y6 y7 (tabB m10 (imgB m9 s))))) ∧ Aside0 (s.size ≤ 100) ∧ Aside0 (Below W3.heap.size W3 wc))
  case first =>
    obtain ⟨z0, z1, z2, z3, z4, z5, z6, z7, z8, z9, z10, z11, z12, z13, z14, z15, z16, z17, z18, z19, z20, z21, z22, z23, z24, z25⟩ := IsRec.all13 (IsRec.below RY.out HB.out)
    by_cases c : 0 < y1
    · have b0 : decide (0 < y1) = true := decide_eq_true c
      rw [b0]
      have e1 : stT y1 y2 s = (((s ++ ⟨#[32, 116, 120, 110, 32]⟩) ++ lowB y1) ++ ⟨#[32, 112, 114, 101, 118, 32]⟩) ++ lowB y2 := if_pos c
      have hT := HT.out
      rw [e1] at hT
      have HT := Aside0.mk hT; clear hT e1 c
      go_upto_region 4 with fail
      clear z0 z1 z2 z3 z4 z5 z6 z7 z8 z9 z10 z11 z12 z13 z14 z15 z16 z17 z18 z19 z20 z21 z22 z23 z24 z25
      refine start_ (n := 12) (S := fun w' => Below U2.drew.heap.size U2.drew w') (ds := []) #[false, false, false, false, false, false, false, false, false, false, false, false] (by kernel_rfl) rfl rfl (Below.refl _ _) (fun hHeld => ?_); refine with_tabW law_line.tab4 law_line.bits4 (fun HT_ HW_ => ?_)
      refine ord_ [0, 1, 2, 3, 7, 8, 4, 5, 6, 9, 10, 11] ?_
      have HB0 := Aside0.mk (below_drew HB.out); have R0 := Aside0.mk (IsRec.below RY.out HB0.out); clear HB
      generalize U2.drew = V0 at R0 HB0 hHeld ⊢
      have u0 : (9223372036854775807 < s.size + 5) = False := eq_false (Nat.not_lt.2 (by have := HZ.out; have := lowB_size y1; have := lowB_size y2; omega))
      have u1 : (9223372036854775807 < s.size + 5 + (lowB y1).size) = False := eq_false (Nat.not_lt.2 (by have := HZ.out; have := lowB_size y1; have := lowB_size y2; omega))
      have u2 : (9223372036854775807 < s.size + 5 + (lowB y1).size + 6) = False := eq_false (Nat.not_lt.2 (by have := HZ.out; have := lowB_size y1; have := lowB_size y2; omega))
      have u3 : (9223372036854775807 < s.size + 5 + (lowB y1).size + 6 + (lowB y2).size) = False := eq_false (Nat.not_lt.2 (by have := HZ.out; have := lowB_size y1; have := lowB_size y2; omega))
      iterate 6
        first
        | refine ordP (v := ?_) (a' := ?_) HT_ rfl rfl (by kernel_rfl) (fun _ _ _ h => h) (.inl ⟨by rfl, ?_⟩) ?_ ?_
          rotate_left
          · intro w'
            go_simp
            with_reducible rfl
          rotate_left
          · simp only [Act.put, List.setIfInBounds_toArray, List.set_cons_zero, List.set_cons_succ, i64_w, i32_w]
            rfl
        | refine ordT (v := ?_) (a' := ?_) HT_ HW_ rfl rfl (by kernel_rfl) (fun _ _ _ h => h) (.inl ⟨by rfl, ?_⟩) hHeld ?_ ?_
          rotate_left
          · intro w' hs
            obtain ⟨s0, s1, s2, s3, s4, s5, s6, s7, s8, s9, s10, s11, s12, _⟩ := IsRec.all13 (IsRec.below R0.out hs)
            go_simp
            with_reducible rfl
          rotate_left
          · simp only [Act.put, List.setIfInBounds_toArray, List.set_cons_zero, List.set_cons_succ, i64_w, i32_w]
            rfl
      refine ord1 (N := some 25) HT_ rfl rfl (by kernel_rfl) (by decide) (fun K hK => ?_)
      refine goes_ Tryz.func16 (by kernel_rfl) rfl #[.int .i64 y1] (by rfl) rfl rfl (by (try simp only [List.map_toArray, List.map_cons, List.map_nil]); rfl) ?_
      refine (law_low y1 V0).mono ?_
      rintro e V1 ⟨rfl, hb⟩
      refine ⟨_, rfl, ?_⟩
      refine hK.out _ _ (below_step hHeld hb) (fun hHeld2 => ?_)
      clear hK K hb hHeld; have hHeld := hHeld2; clear hHeld2
      refine ordN (a' := ?_) ?_ ?_
      rotate_left
      · simp only [Act.put, List.setIfInBounds_toArray, List.set_cons_zero, List.set_cons_succ]
        rfl
      iterate 2
        refine ordP (v := ?_) (a' := ?_) HT_ rfl rfl (by kernel_rfl) (fun _ _ _ h => h) (.inl ⟨by rfl, ?_⟩) ?_ ?_
        rotate_left
        · intro w'
          go_simp
          with_reducible rfl
        rotate_left
        · simp only [Act.put, List.setIfInBounds_toArray, List.set_cons_zero, List.set_cons_succ, i64_w, i32_w]
          rfl
      refine ord1 (N := some 30) HT_ rfl rfl (by kernel_rfl) (by decide) (fun K hK => ?_)
      refine goes_ Tryz.func16 (by kernel_rfl) rfl #[.int .i64 y2] (by rfl) rfl rfl (by (try simp only [List.map_toArray, List.map_cons, List.map_nil]); rfl) ?_
      refine (law_low y2 V1).mono ?_
      rintro e V2 ⟨rfl, hb⟩
      refine ⟨_, rfl, ?_⟩
      refine hK.out _ _ (below_step hHeld hb) (fun hHeld2 => ?_)
      clear hK K hb hHeld; have hHeld := hHeld2; clear hHeld2
      refine ordN (a' := ?_) ?_ ?_
      rotate_left
      · simp only [Act.put, List.setIfInBounds_toArray, List.set_cons_zero, List.set_cons_succ]
        rfl
      iterate 2
        refine ordP (v := ?_) (a' := ?_) HT_ rfl rfl (by kernel_rfl) (fun _ _ _ h => h) (.inl ⟨by rfl, ?_⟩) ?_ ?_
        rotate_left
        · intro w'
          go_simp
          with_reducible rfl
        rotate_left
        · simp only [Act.put, List.setIfInBounds_toArray, List.set_cons_zero, List.set_cons_succ, i64_w, i32_w]
          rfl
      refine ordD HT_ (by kernel_rfl) ?_
      have HB := Aside0.mk (below_step HB0.out hHeld); clear hHeld R0 HB0 HT_ HW_ u0 u1 u2 u3 
      go_wp2_with fail
      go_meet
      case rel => exact ⟨_, rfl, HT, ⟨by rw [app_size, app_size, app_size, app_size]; have l1_ : (⟨#[32]⟩ : ByteArray).size = 1 := rfl; have l5_ : (⟨#[32, 116, 120, 110, 32]⟩ : ByteArray).size = 5 := rfl; have l6_ : (⟨#[32, 112, 114, 101, 118, 32]⟩ : ByteArray).size = 6 := rfl; have l7_ : (⟨#[32, 110, 101, 120, 116, 32]⟩ : ByteArray).size = 6 := rfl; have := HZ.out; have := lowB_size y1; have := lowB_size y2; omega⟩, HB⟩
    · have b0 : decide (0 < y1) = false := decide_eq_false c
      rw [b0]
      have e1 : stT y1 y2 s = s := if_neg c
      have hT := HT.out
      rw [e1] at hT
      have HT := Aside0.mk hT; clear hT e1 c
      go_wp2_with fail
      go_meet
      case rel => exact ⟨_, rfl, HT, ⟨by have := HZ.out; omega⟩, HB⟩
  case rest =>
    clear HT HZ HB
    obtain ⟨s, rfl, HT, HZ, HB⟩ := hcut
    go_wp2_with fail
    go_loopg [6, 7] (m9.length) (fun kq v6 v7 w' => ∃ (i : Int) (s : ByteArray), v7 = .int .i64 i ∧ v6 = .string s ∧ Aside0 (0 ≤ i ∧ i.toNat + kq = m9.length) ∧ Aside0 (T = stE y0 y11 y12 (stU y0 y3 y4 y8 y5 y6 y7 (stC y0 y3 y5 y6 y7 (tabB m10 (imgB (m9.drop i.toNat) s))))) ∧ Aside0 (s.size ≤ 100 + 21 * i.toNat) ∧ Aside0 (Below W3.heap.size W3 w'))
    case atStart => exact ⟨0, s, rfl, rfl, ⟨by omega, by simp⟩, ⟨HT.out⟩, ⟨by have := HZ.out; omega⟩, HB⟩
    case round =>
      clear HT HZ HB
      obtain ⟨i, s, rfl, rfl, HN, HT, HZ, HB⟩ := hrel
      obtain ⟨z0, z1, z2, z3, z4, z5, z6, z7, z8, z9, z10, z11, z12, z13, z14, z15, z16, z17, z18, z19, z20, z21, z22, z23, z24, z25⟩ := IsRec.all13 (IsRec.below RY.out HB.out)
      cases gk with
      | succ k1 =>
        have hi : i < (m9.length : Int) := by have := HN.out; omega
        have h0 : 0 ≤ i := HN.out.1
        have b0 : decide (i < (m9.length : Int)) = true := decide_eq_true hi
        have hw : wrap64 (i + 1) = i + 1 := w64 (by omega) (by have := HS.out.2.2.2.1; omega)
        have hnx : (i + 1).toNat = i.toNat + 1 := by omega
        obtain ⟨ad, rfl, x0_, _⟩ := at_T144 (Kd.C_below Q9.out HB.out) i h0 hi
        have hT := HT.out
        rw [imgB_step m9 i s h0 hi] at hT
        generalize (rd_T144 m9 i).f0 = pg at x0_ hT
        have HT := Aside0.mk hT; clear hT
        have hlt : i.toNat < 300 := by have := HS.out.2.2.2.1; omega
        have u0 : (9223372036854775807 < s.size + 1) = False := eq_false (Nat.not_lt.2 (by have := HZ.out; omega))
        have u1 : (9223372036854775807 < s.size + 1 + (lowB pg).size) = False := eq_false (Nat.not_lt.2 (by have := HZ.out; have := lowB_size pg; omega))
        go_wp2_with fail
        refine (law_low pg wr).mono ?_
        rintro e w5 ⟨rfl, hb⟩
        have HB5 := Aside0.mk (below_step HB.out hb); clear hb
        go_wp2_with fail
        go_roundg k1
        case measure => omega
        case rel => exact ⟨i + 1, _, by first | rfl | rw [hw], rfl, ⟨by omega, by have := HN.out; omega⟩, HT, ⟨by rw [app_size, app_size]; have l1_ : (⟨#[32]⟩ : ByteArray).size = 1 := rfl; have l5_ : (⟨#[32, 116, 120, 110, 32]⟩ : ByteArray).size = 5 := rfl; have l6_ : (⟨#[32, 112, 114, 101, 118, 32]⟩ : ByteArray).size = 6 := rfl; have l7_ : (⟨#[32, 110, 101, 120, 116, 32]⟩ : ByteArray).size = 6 := rfl; have := HZ.out; have := lowB_size pg; omega⟩, HB5⟩
      | zero =>
        have b0 : decide (i < (m9.length : Int)) = false := decide_eq_false (by have := HN.out; omega)
        have hn : i.toNat = m9.length := by have := HN.out; omega
        have HT : Aside0 (T = stE y0 y11 y12 (stU y0 y3 y4 y8 y5 y6 y7 (stC y0 y3 y5 y6 y7 (tabB m10 s)))) := ⟨by have h := HT.out; rw [hn, List.drop_eq_nil_of_le (Nat.le_refl _)] at h; exact h⟩
        have HZ : Aside0 (s.size ≤ 7000) := ⟨by have := HZ.out; have := HS.out.2.2.2.1; omega⟩
        clear hn HN
        go_wp2_with fail
        clear b0 z0 z1 z2 z3 z4 z5 z6 z7 z8 z9 z10 z11 z12 z13 z14 z15 z16 z17 z18 z19 z20 z21 z22 z23 z24 z25
        generalize wr = WA at *
        go_loopg [6, 8] (m10.length) (fun kq v6 v8 w' => ∃ (i : Int) (s : ByteArray), v8 = .int .i64 i ∧ v6 = .string s ∧ Aside0 (0 ≤ i ∧ i.toNat + kq = m10.length) ∧ Aside0 (T = stE y0 y11 y12 (stU y0 y3 y4 y8 y5 y6 y7 (stC y0 y3 y5 y6 y7 (tabB (m10.drop i.toNat) s)))) ∧ Aside0 (s.size ≤ 7000 + 42 * i.toNat) ∧ Aside0 (Below W3.heap.size W3 w'))
        case atStart => exact ⟨0, s, rfl, rfl, ⟨by omega, by simp⟩, ⟨HT.out⟩, ⟨by have := HZ.out; omega⟩, HB⟩
        case round =>
          clear HT HZ HB
          obtain ⟨i, s, rfl, rfl, HN, HT, HZ, HB⟩ := hrel
          cases gk with
          | succ k1 =>
            have hi : i < (m10.length : Int) := by have := HN.out; omega
            have h0 : 0 ≤ i := HN.out.1
            have b0 : decide (i < (m10.length : Int)) = true := decide_eq_true hi
            have hw : wrap64 (i + 1) = i + 1 := w64 (by omega) (by have := HS.out.2.2.2.2; omega)
            have hnx : (i + 1).toNat = i.toNat + 1 := by omega
            obtain ⟨ad, rfl, x0_, x1_⟩ := at_T36 (Kd.C_below Q10.out HB.out) i h0 hi
            have hT := HT.out
            rw [tabB_step m10 i s h0 hi] at hT
            generalize (rd_T36 m10 i).f0 = pg at x0_ hT
            generalize (rd_T36 m10 i).f1 = pl at x1_ hT
            have HT := Aside0.mk hT; have f1_0 := Aside0.mk x0_; have f2_0 := Aside0.mk x1_; clear hT x0_ x1_
            have hlt : i.toNat < 300 := by have := HS.out.2.2.2.2; omega
            obtain ⟨z0, z1, z2, z3, z4, z5, z6, z7, z8, z9, z10, z11, z12, z13, z14, z15, z16, z17, z18, z19, z20, z21, z22, z23, z24, z25⟩ := IsRec.all13 (IsRec.below RY.out HB.out)
            go_upto_region 12 with fail
            clear z0 z1 z2 z3 z4 z5 z6 z7 z8 z9 z10 z11 z12 z13 z14 z15 z16 z17 z18 z19 z20 z21 z22 z23 z24 z25
            refine start_ (n := 20) (S := fun w' => Below wr.drew.heap.size wr.drew w') (ds := []) #[false, false, false, false, false, false, false, false, false, false, false, false, false, false, false, false, false, false, false, false] (by kernel_rfl) rfl rfl (Below.refl _ _) (fun hHeld => ?_); refine with_tabW law_line.tab12 law_line.bits12 (fun HT_ HW_ => ?_)
            refine ord_ [0, 1, 2, 3, 4, 5, 6, 7, 11, 12, 13, 14, 15, 16, 8, 9, 10, 17, 18, 19] ?_
            have HB0 := Aside0.mk (below_drew HB.out); have R0 := Aside0.mk (IsRec.below RY.out HB0.out); clear HB
            have f1_ := Aside0.mk (show wr.drew.cell? _ = _ from f1_0.out)
            have f2_ := Aside0.mk (show wr.drew.cell? _ = _ from f2_0.out)
            generalize wr.drew = V0 at R0 HB0 hHeld f1_ f2_ ⊢
            have u0 : (9223372036854775807 < s.size + 1) = False := eq_false (Nat.not_lt.2 (by have := HZ.out; have := lowB_size pg; have := lowB_size pl; omega))
            have u1 : (9223372036854775807 < s.size + 1 + (lowB pg).size) = False := eq_false (Nat.not_lt.2 (by have := HZ.out; have := lowB_size pg; have := lowB_size pl; omega))
            have u2 : (9223372036854775807 < s.size + 1 + (lowB pg).size + 1) = False := eq_false (Nat.not_lt.2 (by have := HZ.out; have := lowB_size pg; have := lowB_size pl; omega))
            have u3 : (9223372036854775807 < s.size + 1 + (lowB pg).size + 1 + (lowB pl).size) = False := eq_false (Nat.not_lt.2 (by have := HZ.out; have := lowB_size pg; have := lowB_size pl; omega))
            iterate 14
              first
              | refine ordP (v := ?_) (a' := ?_) HT_ rfl rfl (by kernel_rfl) (fun _ _ _ h => h) (.inl ⟨by rfl, ?_⟩) ?_ ?_
                rotate_left
                · intro w'
                  go_simp
                  with_reducible rfl
                rotate_left
                · simp only [Act.put, List.setIfInBounds_toArray, List.set_cons_zero, List.set_cons_succ, i64_w, i32_w]
                  rfl
              | refine ordT (v := ?_) (a' := ?_) HT_ HW_ rfl rfl (by kernel_rfl) (fun _ _ _ h => h) (.inl ⟨by rfl, ?_⟩) hHeld ?_ ?_
                rotate_left
                · intro w' hs
                  obtain ⟨s0, s1, s2, s3, s4, s5, s6, s7, s8, s9, s10, s11, s12, _⟩ := IsRec.all13 (IsRec.below R0.out hs)
                  have f1_x := below_cell hs f1_.out; have f2_x := below_cell hs f2_.out
                  go_simp
                  with_reducible rfl
                rotate_left
                · simp only [Act.put, List.setIfInBounds_toArray, List.set_cons_zero, List.set_cons_succ, i64_w, i32_w]
                  rfl
            refine ord1 (N := some 64) HT_ rfl rfl (by kernel_rfl) (by decide) (fun K hK => ?_)
            refine goes_ Tryz.func16 (by kernel_rfl) rfl #[.int .i64 pg] (by rfl) rfl rfl (by (try simp only [List.map_toArray, List.map_cons, List.map_nil]); rfl) ?_
            refine (law_low pg V0).mono ?_
            rintro e V1 ⟨rfl, hb⟩
            refine ⟨_, rfl, ?_⟩
            refine hK.out _ _ (below_step hHeld hb) (fun hHeld2 => ?_)
            clear hK K hb hHeld; have hHeld := hHeld2; clear hHeld2
            refine ordN (a' := ?_) ?_ ?_
            rotate_left
            · simp only [Act.put, List.setIfInBounds_toArray, List.set_cons_zero, List.set_cons_succ]
              rfl
            iterate 2
              refine ordP (v := ?_) (a' := ?_) HT_ rfl rfl (by kernel_rfl) (fun _ _ _ h => h) (.inl ⟨by rfl, ?_⟩) ?_ ?_
              rotate_left
              · intro w'
                go_simp
                with_reducible rfl
              rotate_left
              · simp only [Act.put, List.setIfInBounds_toArray, List.set_cons_zero, List.set_cons_succ, i64_w, i32_w]
                rfl
            refine ord1 (N := some 73) HT_ rfl rfl (by kernel_rfl) (by decide) (fun K hK => ?_)
            refine goes_ Tryz.func16 (by kernel_rfl) rfl #[.int .i64 pl] (by rfl) rfl rfl (by (try simp only [List.map_toArray, List.map_cons, List.map_nil]); rfl) ?_
            refine (law_low pl V1).mono ?_
            rintro e V2 ⟨rfl, hb⟩
            refine ⟨_, rfl, ?_⟩
            refine hK.out _ _ (below_step hHeld hb) (fun hHeld2 => ?_)
            clear hK K hb hHeld; have hHeld := hHeld2; clear hHeld2
            refine ordN (a' := ?_) ?_ ?_
            rotate_left
            · simp only [Act.put, List.setIfInBounds_toArray, List.set_cons_zero, List.set_cons_succ]
              rfl
            iterate 2
              refine ordP (v := ?_) (a' := ?_) HT_ rfl rfl (by kernel_rfl) (fun _ _ _ h => h) (.inl ⟨by rfl, ?_⟩) ?_ ?_
              rotate_left
              · intro w'
                go_simp
                with_reducible rfl
              rotate_left
              · simp only [Act.put, List.setIfInBounds_toArray, List.set_cons_zero, List.set_cons_succ, i64_w, i32_w]
                rfl
            refine ordD HT_ (by kernel_rfl) ?_
            have HB := Aside0.mk (below_step HB0.out hHeld); clear hHeld R0 HB0 HT_ HW_ u0 u1 u2 u3 f1_ f2_; clear f1_0 f2_0
            go_wp2_with fail
            go_roundg k1
            case measure => omega
            case rel => exact ⟨i + 1, _, by first | rfl | rw [hw], rfl, ⟨by omega, by have := HN.out; omega⟩, HT, ⟨by rw [app_size, app_size, app_size, app_size]; have l1_ : (⟨#[32]⟩ : ByteArray).size = 1 := rfl; have l5_ : (⟨#[32, 116, 120, 110, 32]⟩ : ByteArray).size = 5 := rfl; have l6_ : (⟨#[32, 112, 114, 101, 118, 32]⟩ : ByteArray).size = 6 := rfl; have l7_ : (⟨#[32, 110, 101, 120, 116, 32]⟩ : ByteArray).size = 6 := rfl; have := HZ.out; have := lowB_size pg; have := lowB_size pl; omega⟩, HB⟩
          | zero =>
            have b0 : decide (i < (m10.length : Int)) = false := decide_eq_false (by have := HN.out; omega)
            have hn : i.toNat = m10.length := by have := HN.out; omega
            have HT : Aside0 (T = stE y0 y11 y12 (stU y0 y3 y4 y8 y5 y6 y7 (stC y0 y3 y5 y6 y7 s))) := ⟨by have h := HT.out; rw [hn, List.drop_eq_nil_of_le (Nat.le_refl _)] at h; exact h⟩
            have HZ : Aside0 (s.size ≤ 20000) := ⟨by have := HZ.out; have := HS.out.2.2.2.2; omega⟩
            clear hn HN
            obtain ⟨z0, z1, z2, z3, z4, z5, z6, z7, z8, z9, z10, z11, z12, z13, z14, z15, z16, z17, z18, z19, z20, z21, z22, z23, z24, z25⟩ := IsRec.all13 (IsRec.below RY.out HB.out)
            rcases (show (3 ≤ y0 ∧ y0 ≤ 5) ∨ y0 = 6 ∨ y0 = 10 ∨ (y0 < 3 ∨ (5 < y0 ∧ y0 ≠ 6 ∧ y0 ≠ 10)) by omega) with hk | hk | hk | hk
            · have c0 : decide (3 ≤ y0) = true := decide_eq_true hk.1
              have c1 : decide (y0 ≤ 5) = true := decide_eq_true hk.2
              have c2 : (y0 == 6) = false := beq_eq_false_iff_ne.mpr (by omega)
              have c3 : (y0 == 10) = false := beq_eq_false_iff_ne.mpr (by omega)
              have e1 : T = s ++ turnB y3 y5 y6 y7 y0 := by
                rw [HT.out, show stC y0 y3 y5 y6 y7 s = s ++ turnB y3 y5 y6 y7 y0 from if_pos hk]
                unfold stE stU
                rw [if_neg (by omega), if_neg (by omega)]
              have E1 := Aside0.mk e1; have ht := turnB_size y3 y5 y6 y7 y0 HS.out.1 HS.out.2.1 HS.out.2.2.1; have HT5 := Aside0.mk (law_turned y0 y1 y2 y3 y4 y5 y6 y7 y8 B9 m9.length d9 B10 m10.length d10 y11 y12 y0 wr HS.out.1 HS.out.2.1 HS.out.2.2.1)
              have u0 : (9223372036854775807 < s.size + (turnB y3 y5 y6 y7 y0).size) = False := eq_false (Nat.not_lt.2 (by have := HZ.out; omega))
              clear e1 ht hk
              go_wp2_with fail
              refine HT5.out.mono ?_
              rintro e w5 ⟨rfl, hb⟩
              have HB5 := Aside0.mk (below_step HB.out hb); have HC5 := Aside0.mk (below_step (below_step B3.out HB.out) hb); clear hb z0 z1 z2 z3 z4 z5 z6 z7 z8 z9 z10 z11 z12 z13 z14 z15 z16 z17 z18 z19 z20 z21 z22 z23 z24 z25
              obtain ⟨z0, z1, z2, z3, z4, z5, z6, z7, z8, z9, z10, z11, z12, z13, z14, z15, z16, z17, z18, z19, z20, z21, z22, z23, z24, z25⟩ := IsRec.all13 (IsRec.below RY.out HB5.out)
              go_wp2_with fail
              go_ret
              exact ⟨by rw [E1.out]; rfl, HC5.out⟩
            · have c0 : decide (3 ≤ y0) = true := decide_eq_true (by omega)
              have c1 : decide (y0 ≤ 5) = false := decide_eq_false (by omega)
              have c2 : (y0 == 6) = true := beq_iff_eq.mpr hk
              have c3 : (y0 == 10) = false := beq_eq_false_iff_ne.mpr (by omega)
              have e1 : T = ((((s ++ ⟨#[32, 110, 101, 120, 116, 32]⟩) ++ lowB y8) ++ ⟨#[32]⟩) ++ nameB y4) ++ turnB y3 y5 y6 y7 y4 := by
                rw [HT.out, show stC y0 y3 y5 y6 y7 s = s from if_neg (by omega)]
                unfold stE stU
                rw [if_neg (by omega), if_pos hk]
              have E1 := Aside0.mk e1; have ht := turnB_size y3 y5 y6 y7 y4 HS.out.1 HS.out.2.1 HS.out.2.2.1; have H5 := Aside0.mk ht; have HK5 := Aside0.mk HS.out; clear e1 ht hk
              go_upto_region 16 with fail
              clear z0 z1 z2 z3 z4 z5 z6 z7 z8 z9 z10 z11 z12 z13 z14 z15 z16 z17 z18 z19 z20 z21 z22 z23 z24 z25
              refine start_ (n := 17) (S := fun w' => Below wr.drew.heap.size wr.drew w') (ds := []) #[false, false, false, false, false, false, false, false, false, false, false, false, false, false, false, false, false] (by kernel_rfl) rfl rfl (Below.refl _ _) (fun hHeld => ?_); refine with_tabW law_line.tab16 law_line.bits16 (fun HT_ HW_ => ?_)
              refine ord_ [0, 1, 2, 3, 7, 8, 11, 12, 13, 4, 5, 6, 9, 10, 14, 15, 16] ?_
              have HB0 := Aside0.mk (below_drew HB.out); have R0 := Aside0.mk (IsRec.below RY.out HB0.out); clear HB
              generalize wr.drew = V0 at R0 HB0 hHeld ⊢
              have u0 : (9223372036854775807 < s.size + 6) = False := eq_false (Nat.not_lt.2 (by have := HZ.out; have := lowB_size y8; have := nameB_size y4; have := H5.out; omega))
              have u1 : (9223372036854775807 < s.size + 6 + (lowB y8).size) = False := eq_false (Nat.not_lt.2 (by have := HZ.out; have := lowB_size y8; have := nameB_size y4; have := H5.out; omega))
              have u2 : (9223372036854775807 < s.size + 6 + (lowB y8).size + 1) = False := eq_false (Nat.not_lt.2 (by have := HZ.out; have := lowB_size y8; have := nameB_size y4; have := H5.out; omega))
              have u3 : (9223372036854775807 < s.size + 6 + (lowB y8).size + 1 + (nameB y4).size) = False := eq_false (Nat.not_lt.2 (by have := HZ.out; have := lowB_size y8; have := nameB_size y4; have := H5.out; omega))
              have u4 : (9223372036854775807 < s.size + 6 + (lowB y8).size + 1 + (nameB y4).size + (turnB y3 y5 y6 y7 y4).size) = False := eq_false (Nat.not_lt.2 (by have := HZ.out; have := lowB_size y8; have := nameB_size y4; have := H5.out; omega))
              iterate 9
                first
                | refine ordP (v := ?_) (a' := ?_) HT_ rfl rfl (by kernel_rfl) (fun _ _ _ h => h) (.inl ⟨by rfl, ?_⟩) ?_ ?_
                  rotate_left
                  · intro w'
                    go_simp
                    with_reducible rfl
                  rotate_left
                  · simp only [Act.put, List.setIfInBounds_toArray, List.set_cons_zero, List.set_cons_succ, i64_w, i32_w]
                    rfl
                | refine ordT (v := ?_) (a' := ?_) HT_ HW_ rfl rfl (by kernel_rfl) (fun _ _ _ h => h) (.inl ⟨by rfl, ?_⟩) hHeld ?_ ?_
                  rotate_left
                  · intro w' hs
                    obtain ⟨s0, s1, s2, s3, s4, s5, s6, s7, s8, s9, s10, s11, s12, _⟩ := IsRec.all13 (IsRec.below R0.out hs)
                    go_simp
                    with_reducible rfl
                  rotate_left
                  · simp only [Act.put, List.setIfInBounds_toArray, List.set_cons_zero, List.set_cons_succ, i64_w, i32_w]
                    rfl
              refine ord1 (N := some 96) HT_ rfl rfl (by kernel_rfl) (by decide) (fun K hK => ?_)
              refine goes_ Tryz.func16 (by kernel_rfl) rfl #[.int .i64 y8] (by rfl) rfl rfl (by (try simp only [List.map_toArray, List.map_cons, List.map_nil]); rfl) ?_
              refine (law_low y8 V0).mono ?_
              rintro e V1 ⟨rfl, hb⟩
              refine ⟨_, rfl, ?_⟩
              refine hK.out _ _ (below_step hHeld hb) (fun hHeld2 => ?_)
              clear hK K hb hHeld; have hHeld := hHeld2; clear hHeld2
              refine ordN (a' := ?_) ?_ ?_
              rotate_left
              · simp only [Act.put, List.setIfInBounds_toArray, List.set_cons_zero, List.set_cons_succ]
                rfl
              iterate 2
                refine ordP (v := ?_) (a' := ?_) HT_ rfl rfl (by kernel_rfl) (fun _ _ _ h => h) (.inl ⟨by rfl, ?_⟩) ?_ ?_
                rotate_left
                · intro w'
                  go_simp
                  with_reducible rfl
                rotate_left
                · simp only [Act.put, List.setIfInBounds_toArray, List.set_cons_zero, List.set_cons_succ, i64_w, i32_w]
                  rfl
              refine ord1 (N := some 101) HT_ rfl rfl (by kernel_rfl) (by decide) (fun K hK => ?_)
              refine goes_ Tryz.func17 (by kernel_rfl) rfl #[.int .i64 y4] (by rfl) rfl rfl (by (try simp only [List.map_toArray, List.map_cons, List.map_nil]); rfl) ?_
              refine (law_name y4 V1).mono ?_
              rintro e V2 ⟨rfl, hb⟩
              refine ⟨_, rfl, ?_⟩
              refine hK.out _ _ (below_step hHeld hb) (fun hHeld2 => ?_)
              clear hK K hb hHeld; have hHeld := hHeld2; clear hHeld2
              refine ordN (a' := ?_) ?_ ?_
              rotate_left
              · simp only [Act.put, List.setIfInBounds_toArray, List.set_cons_zero, List.set_cons_succ]
                rfl
              refine ordP (v := ?_) (a' := ?_) HT_ rfl rfl (by kernel_rfl) (fun _ _ _ h => h) (.inl ⟨by rfl, ?_⟩) ?_ ?_
              rotate_left
              · intro w'
                go_simp
                with_reducible rfl
              rotate_left
              · simp only [Act.put, List.setIfInBounds_toArray, List.set_cons_zero, List.set_cons_succ, i64_w, i32_w]
                rfl
              refine ord1 (N := some 106) HT_ rfl rfl (by kernel_rfl) (by decide) (fun K hK => ?_)
              refine goes_ Tryz.func18 (by kernel_rfl) rfl #[.agg #[.int .i64 y0, .int .i64 y1, .int .i64 y2, .int .i64 y3, .int .i64 y4, .string y5, .string y6, .string y7, .int .i64 y8, .slice B9 m9.length d9, .slice B10 m10.length d10, .int .i64 y11, .int .i64 y12], .int .i64 y4] (by rfl) rfl rfl (by (try simp only [List.map_toArray, List.map_cons, List.map_nil]); rfl) ?_
              refine (law_turned y0 y1 y2 y3 y4 y5 y6 y7 y8 B9 m9.length d9 B10 m10.length d10 y11 y12 y4 V2 HK5.out.1 HK5.out.2.1 HK5.out.2.2.1).mono ?_
              rintro e V3 ⟨rfl, hb⟩
              refine ⟨_, rfl, ?_⟩
              refine hK.out _ _ (below_step hHeld hb) (fun hHeld2 => ?_)
              clear hK K hb hHeld; have hHeld := hHeld2; clear hHeld2
              refine ordN (a' := ?_) ?_ ?_
              rotate_left
              · simp only [Act.put, List.setIfInBounds_toArray, List.set_cons_zero, List.set_cons_succ]
                rfl
              iterate 2
                refine ordP (v := ?_) (a' := ?_) HT_ rfl rfl (by kernel_rfl) (fun _ _ _ h => h) (.inl ⟨by rfl, ?_⟩) ?_ ?_
                rotate_left
                · intro w'
                  go_simp
                  with_reducible rfl
                rotate_left
                · simp only [Act.put, List.setIfInBounds_toArray, List.set_cons_zero, List.set_cons_succ, i64_w, i32_w]
                  rfl
              refine ordD HT_ (by kernel_rfl) ?_
              have HB := Aside0.mk (below_step HB0.out hHeld); clear hHeld R0 HB0 HT_ HW_ u0 u1 u2 u3 u4 
              obtain ⟨z0, z1, z2, z3, z4, z5, z6, z7, z8, z9, z10, z11, z12, z13, z14, z15, z16, z17, z18, z19, z20, z21, z22, z23, z24, z25⟩ := IsRec.all13 (IsRec.below RY.out HB.out)
              go_wp2_with fail
              go_ret
              exact ⟨by rw [E1.out]; rfl, below_step B3.out HB.out⟩
            · have c0 : decide (3 ≤ y0) = true := decide_eq_true (by omega)
              have c1 : decide (y0 ≤ 5) = false := decide_eq_false (by omega)
              have c2 : (y0 == 6) = false := beq_eq_false_iff_ne.mpr (by omega)
              have c3 : (y0 == 10) = true := beq_iff_eq.mpr hk
              have e1 : T = (((s ++ ⟨#[32]⟩) ++ lowB y11) ++ ⟨#[32]⟩) ++ lowB y12 := by
                rw [HT.out, show stC y0 y3 y5 y6 y7 s = s from if_neg (by omega)]
                unfold stE stU
                rw [if_pos hk, if_neg (by omega)]
              have E1 := Aside0.mk e1; clear e1 hk
              go_upto_region 18 with fail
              clear z0 z1 z2 z3 z4 z5 z6 z7 z8 z9 z10 z11 z12 z13 z14 z15 z16 z17 z18 z19 z20 z21 z22 z23 z24 z25
              refine start_ (n := 12) (S := fun w' => Below wr.drew.heap.size wr.drew w') (ds := []) #[false, false, false, false, false, false, false, false, false, false, false, false] (by kernel_rfl) rfl rfl (Below.refl _ _) (fun hHeld => ?_); refine with_tabW law_line.tab18 law_line.bits18 (fun HT_ HW_ => ?_)
              refine ord_ [0, 1, 2, 3, 7, 8, 4, 5, 6, 9, 10, 11] ?_
              have HB0 := Aside0.mk (below_drew HB.out); have R0 := Aside0.mk (IsRec.below RY.out HB0.out); clear HB
              generalize wr.drew = V0 at R0 HB0 hHeld ⊢
              have u0 : (9223372036854775807 < s.size + 1) = False := eq_false (Nat.not_lt.2 (by have := HZ.out; have := lowB_size y11; have := lowB_size y12; omega))
              have u1 : (9223372036854775807 < s.size + 1 + (lowB y11).size) = False := eq_false (Nat.not_lt.2 (by have := HZ.out; have := lowB_size y11; have := lowB_size y12; omega))
              have u2 : (9223372036854775807 < s.size + 1 + (lowB y11).size + 1) = False := eq_false (Nat.not_lt.2 (by have := HZ.out; have := lowB_size y11; have := lowB_size y12; omega))
              have u3 : (9223372036854775807 < s.size + 1 + (lowB y11).size + 1 + (lowB y12).size) = False := eq_false (Nat.not_lt.2 (by have := HZ.out; have := lowB_size y11; have := lowB_size y12; omega))
              iterate 6
                first
                | refine ordP (v := ?_) (a' := ?_) HT_ rfl rfl (by kernel_rfl) (fun _ _ _ h => h) (.inl ⟨by rfl, ?_⟩) ?_ ?_
                  rotate_left
                  · intro w'
                    go_simp
                    with_reducible rfl
                  rotate_left
                  · simp only [Act.put, List.setIfInBounds_toArray, List.set_cons_zero, List.set_cons_succ, i64_w, i32_w]
                    rfl
                | refine ordT (v := ?_) (a' := ?_) HT_ HW_ rfl rfl (by kernel_rfl) (fun _ _ _ h => h) (.inl ⟨by rfl, ?_⟩) hHeld ?_ ?_
                  rotate_left
                  · intro w' hs
                    obtain ⟨s0, s1, s2, s3, s4, s5, s6, s7, s8, s9, s10, s11, s12, _⟩ := IsRec.all13 (IsRec.below R0.out hs)
                    go_simp
                    with_reducible rfl
                  rotate_left
                  · simp only [Act.put, List.setIfInBounds_toArray, List.set_cons_zero, List.set_cons_succ, i64_w, i32_w]
                    rfl
              refine ord1 (N := some 115) HT_ rfl rfl (by kernel_rfl) (by decide) (fun K hK => ?_)
              refine goes_ Tryz.func16 (by kernel_rfl) rfl #[.int .i64 y11] (by rfl) rfl rfl (by (try simp only [List.map_toArray, List.map_cons, List.map_nil]); rfl) ?_
              refine (law_low y11 V0).mono ?_
              rintro e V1 ⟨rfl, hb⟩
              refine ⟨_, rfl, ?_⟩
              refine hK.out _ _ (below_step hHeld hb) (fun hHeld2 => ?_)
              clear hK K hb hHeld; have hHeld := hHeld2; clear hHeld2
              refine ordN (a' := ?_) ?_ ?_
              rotate_left
              · simp only [Act.put, List.setIfInBounds_toArray, List.set_cons_zero, List.set_cons_succ]
                rfl
              iterate 2
                refine ordP (v := ?_) (a' := ?_) HT_ rfl rfl (by kernel_rfl) (fun _ _ _ h => h) (.inl ⟨by rfl, ?_⟩) ?_ ?_
                rotate_left
                · intro w'
                  go_simp
                  with_reducible rfl
                rotate_left
                · simp only [Act.put, List.setIfInBounds_toArray, List.set_cons_zero, List.set_cons_succ, i64_w, i32_w]
                  rfl
              refine ord1 (N := some 120) HT_ rfl rfl (by kernel_rfl) (by decide) (fun K hK => ?_)
              refine goes_ Tryz.func16 (by kernel_rfl) rfl #[.int .i64 y12] (by rfl) rfl rfl (by (try simp only [List.map_toArray, List.map_cons, List.map_nil]); rfl) ?_
              refine (law_low y12 V1).mono ?_
              rintro e V2 ⟨rfl, hb⟩
              refine ⟨_, rfl, ?_⟩
              refine hK.out _ _ (below_step hHeld hb) (fun hHeld2 => ?_)
              clear hK K hb hHeld; have hHeld := hHeld2; clear hHeld2
              refine ordN (a' := ?_) ?_ ?_
              rotate_left
              · simp only [Act.put, List.setIfInBounds_toArray, List.set_cons_zero, List.set_cons_succ]
                rfl
              iterate 2
                refine ordP (v := ?_) (a' := ?_) HT_ rfl rfl (by kernel_rfl) (fun _ _ _ h => h) (.inl ⟨by rfl, ?_⟩) ?_ ?_
                rotate_left
                · intro w'
                  go_simp
                  with_reducible rfl
                rotate_left
                · simp only [Act.put, List.setIfInBounds_toArray, List.set_cons_zero, List.set_cons_succ, i64_w, i32_w]
                  rfl
              refine ordD HT_ (by kernel_rfl) ?_
              have HB := Aside0.mk (below_step HB0.out hHeld); clear hHeld R0 HB0 HT_ HW_ u0 u1 u2 u3 
              go_wp2_with fail
              go_ret
              exact ⟨by rw [E1.out]; rfl, below_step B3.out HB.out⟩
            · have e1 : T = s := by
                rw [HT.out, show stC y0 y3 y5 y6 y7 s = s from if_neg (by omega)]
                unfold stE stU
                rw [if_neg (by omega), if_neg (by omega)]
              have E1 := Aside0.mk e1; have E2 := Aside0.mk (below_step B3.out HB.out)
              have c2 : (y0 == 6) = false := beq_eq_false_iff_ne.mpr (by omega)
              have c3 : (y0 == 10) = false := beq_eq_false_iff_ne.mpr (by omega)
              clear e1
              rcases hk with hk | hk
              · have c0 : decide (3 ≤ y0) = false := decide_eq_false (by omega)
                clear hk
                go_wp2_with fail
                go_ret
                exact ⟨by rw [E1.out]; rfl, E2.out⟩
              · have c0 : decide (3 ≤ y0) = true := decide_eq_true (by omega)
                have c1 : decide (y0 ≤ 5) = false := decide_eq_false (by omega)
                clear hk
                go_wp2_with fail
                go_ret
                exact ⟨by rw [E1.out]; rfl, E2.out⟩
end Go.Proofs.YteoebfiacnploaaGreatDoor.HRec
