/- Texts of this proof, put together: TopA, SayF. They prove no statement. -/
import Derived.Test.YteoebfiacnploaaGreatDoorQG20
import Derived.Test.YteoebfiacnploaaGreatDoorQG4
import Derived.Deep.LoopGhost
import Derived.Test.YteoebfiacnploaaGreatDoorQSayE
import Derived.ChangeKeysEq
namespace Go.Proofs.YteoebfiacnploaaGreatDoor.HRec
open Go.RowKit Go.Proofs.YteoebfiacnploaaGreatDoorW.PrintWords Go.Proofs.YteoebfiacnploaaGreatDoorW.PrintLast Go.Proofs.YteoebfiacnploaaGreatDoorW.PrintMore
set_option linter.unusedVariables false
set_option linter.unusedSimpArgs false
theorem cleanR_len (x0 x1 x2 x3 x4 : Int) (k o n : ByteArray) (x8 : Int) (l9 : List S144) (l10 : List S36) (x11 x12 : Int) : (cleanR x0 x1 x2 x3 x4 k o n x8 l9 l10 x11 x12).2.2.2.2.2.2.2.2.2.1.length ≤ l9.length := by
  unfold cleanR
  split
  · exact Nat.le_refl _
  split
  · exact Nat.zero_le _
  split
  · exact Nat.zero_le _
  split
  · exact Nat.zero_le _
  split
  · exact Nat.zero_le _
  split
  · exact Nat.zero_le _
  · exact Nat.zero_le _
set_option maxHeartbeats 16000000 in
set_option maxRecDepth 100000 in
theorem law_Log (A1 : Option Addr) (c1 : Nat) (l : List RecT) (most : Int) (w : World) (hr : Kd.C kRec w A1 l.length l) :
    Calls Tryz.prog 4 #[.slice A1 l.length c1, .int .i64 most] w fun e w' => ∃ L d all, e = .returned (.pointer (some ⟨L, 0, none⟩)) ∧ IsLog w' L d 0 200 1 all 0 ∧ all.size ≤ 11600 ∧ w.heap.size ≤ L ∧ Below w.heap.size w w' := by
  have HR := Aside0.mk hr; have HLN := Aside0.mk hr.2.1; have HN := Aside0.mk (disk_New 200 w (by omega) (by omega)); have hu32 := Tryz.underlying33; clear hr
  go_enter Tryz.func4, Tryz.ntmps4
  go_wp2_with fail
  refine HN.out.mono ?_
  rintro e w1 ⟨d, m, A, c, rfl, hd, hm, hm0, hmd, hrow, hb⟩
  have HO := Aside0.mk (wal_Open d m A c w w1 hd hm hrow hmd hb hm0); clear hd hm hm0 hmd hrow hb HN
  go_wp2_with fail
  refine HO.out.mono ?_
  rintro e w2 ⟨L, rfl, hl, hl0, hb⟩
  have HL := Aside0.mk hl; have HB := Aside0.mk hb; have HL0 := Aside0.mk hl0; clear hl hb hl0 HO
  go_wp2_with fail
  go_loopg [9] (l.length) (fun kq v9 w' => ∃ (i : Int) (all : ByteArray), v9 = .int .i64 i ∧ Aside0 (0 ≤ i ∧ i.toNat + kq = l.length) ∧ Aside0 (IsLog w' L d 0 200 1 all 0) ∧ Aside0 (all.size ≤ 11600) ∧ Aside0 (Below w.heap.size w w'))
  case atStart => exact ⟨0, ⟨#[]⟩, rfl, ⟨by omega, by simp⟩, HL, ⟨by decide⟩, HB⟩
  case round =>
    clear HL HB
    obtain ⟨i, all, rfl, HN, HL, HS, HB⟩ := hrel
    cases gk with
    | zero =>
      have b0 : decide (i < (l.length : Int)) = false := decide_eq_false (by have := HN.out; omega)
      go_wp2_with fail
      go_ret
      exact ⟨L, d, all, rfl, HL.out, HS.out, HL0.out, HB.out⟩
    | succ k1 =>
      have hi : i < (l.length : Int) := by have := HN.out; omega
      have h0 : 0 ≤ i := HN.out.1
      have b0 : decide (i < (l.length : Int)) = true := decide_eq_true hi
      have hw : wrap64 (i + 1) = i + 1 := w64 (by omega) (by have := HLN.out; omega)
      have hnx : (i + 1).toNat = i.toNat + 1 := by omega
      by_cases hmo : i < most
      · have b1 : decide (i < most) = true := decide_eq_true hmo
        clear hmo
        obtain ⟨ad, A9, c9, A10, c10, rfl, z0, z1, z2, z3, z4, z5, z6, z7, z8, z9, z10, z11, z12, q9, y9, q10, y10⟩ := at_Rec (Kd.C_below HR.out HB.out) i h0 hi
        generalize rd_Rec l i = y at *
        obtain ⟨y0, y1, y2, y3, y4, y5, y6, y7, y8, l9, l10, y11, y12⟩ := y
        dsimp only at z0 z1 z2 z3 z4 z5 z6 z7 z8 z9 z10 z11 z12 q9 y9 q10 y10
        obtain ⟨s, ee, hf, _⟩ := frame_tot (cleanR y0 y1 y2 y3 y4 y5 y6 y7 y8 l9 l10 y11 y12) (Nat.le_trans (cleanR_len y0 y1 y2 y3 y4 y5 y6 y7 y8 l9 l10 y11 y12) q9.2.1)
        have HA := Aside0.mk (log_Append L d 0 1 all 0 y0 y1 y2 y3 y4 y5 y6 y7 y8 A9 c9 l9 A10 c10 l10 y11 y12 s ee w wr HL.out HS.out HB.out HL0.out q9 y9 q10 y10 hf); have HS2 := Aside0.mk (appF_size all s ee HS.out); clear q9 y9 q10 y10 hf
        go_wp2_with fail
        refine HA.out.mono ?_
        rintro e w3 ⟨rfl, hl, hb⟩
        have HL3 := Aside0.mk hl; have HB3 := Aside0.mk hb; clear hl hb HA z0 z1 z2 z3 z4 z5 z6 z7 z8 z9 z10 z11 z12
        go_wp2_with fail
        go_roundg k1
        case measure => omega
        case rel => exact ⟨i + 1, _, by first | rfl | rw [hw], ⟨by omega, by have := HN.out; omega⟩, HL3, HS2, HB3⟩
      · have b1 : decide (i < most) = false := decide_eq_false hmo
        clear hmo
        go_wp2_with fail
        go_ret
        exact ⟨L, d, all, rfl, HL.out, HS.out, HL0.out, HB.out⟩
end Go.Proofs.YteoebfiacnploaaGreatDoor.HRec
namespace Go.Proofs.YteoebfiacnploaaGreatDoor.HRec
open Go.RowKit Go.Proofs.YteoebfiacnploaaGreatDoorW.PrintWords Go.Proofs.YteoebfiacnploaaGreatDoorW.PrintLast Go.Proofs.YteoebfiacnploaaGreatDoorW.PrintMore Go.Proofs.YteoebfiacnploaaGreatDoor.SayPure
set_option linter.unusedVariables false
set_option linter.unusedSimpArgs false
theorem arrC_at (t : Nat → Int) (k : Nat) (hk : k < 11) : (arrC t)[k]? = some (.int .i64 (t k)) := by
  unfold arrC
  match k, hk with
  | 0, _ => rfl | 1, _ => rfl | 2, _ => rfl | 3, _ => rfl | 4, _ => rfl | 5, _ => rfl | 6, _ => rfl | 7, _ => rfl | 8, _ => rfl | 9, _ => rfl | 10, _ => rfl
theorem eq_items (t : Nat → Int) (w : World) : ∀ is : List Nat, (∀ i ∈ is, i < 11) → (Op.eqItems 9999 3 1 (arrC t) (arrC t) is).run Tryz.prog w = .ok true w
  | [], _ => by simp [Op.eqItems]
  | i :: is, h => by
    have hp : (part 3 (arrC t) (i * 1)).run Tryz.prog w = .ok (.int .i64 (t i)) w := run_part_plain (P := Tryz.prog) w (e := 3) (by kernel_rfl) (by rw [Nat.mul_one]; exact arrC_at t i (h i (by simp)))
    have ih := eq_items t w is (fun j hj => h j (by simp [hj]))
    have he : (Op.equalIn 9999 3 (.int .i64 (t i)) (.int .i64 (t i))).run Tryz.prog w = .ok (t i == t i) w := run_equalIn_int w 9998 3 .i64 .i64 (t i) (t i) Tryz.underlying3
    simp only [Op.eqItems, Sem.run_bind, hp, Result.andThen_ok, he, beq_self_eq_true, Bool.not_true, Bool.false_eq_true, if_false]
    exact ih
theorem eq28 (t : Nat → Int) (w : World) : (Op.equalIn 10000 28 (.agg (arrC t)) (.agg (arrC t))).run Tryz.prog w = .ok true w := by
  obtain ⟨i, hi, _⟩ := info_parts info_i
  rw [run_equalIn_array w 9999 (arrC t) (arrC t) Tryz.underlying28 hi, show Tryz.prog.cellsOf 3 = 1 from by kernel_rfl]
  exact eq_items t w _ (fun j hj => List.mem_range.1 hj)
/-- A record's cells, wherever they are. -/
def AtRec (W : World) (p : Addr) (y0 y1 y2 y3 y4 : Int) (y5 y6 y7 : ByteArray) (y8 : Int) (v9 v10 : Value) (y11 y12 : Int) : Prop := W.cell? p = some (.int .i64 y0) ∧ W.cell? ⟨p.block, p.off + 1, none⟩ = some (.int .i64 y1) ∧ W.cell? ⟨p.block, p.off + 2, none⟩ = some (.int .i64 y2) ∧ W.cell? ⟨p.block, p.off + 3, none⟩ = some (.int .i64 y3) ∧ W.cell? ⟨p.block, p.off + 4, none⟩ = some (.int .i64 y4) ∧ W.cell? ⟨p.block, p.off + 5, none⟩ = some (.string y5) ∧ W.cell? ⟨p.block, p.off + 6, none⟩ = some (.string y6) ∧ W.cell? ⟨p.block, p.off + 7, none⟩ = some (.string y7) ∧ W.cell? ⟨p.block, p.off + 8, none⟩ = some (.int .i64 y8) ∧ W.cell? ⟨p.block, p.off + 9, none⟩ = some (v9) ∧ W.cell? ⟨p.block, p.off + 10, none⟩ = some (v10) ∧ W.cell? ⟨p.block, p.off + 11, none⟩ = some (.int .i64 y11) ∧ W.cell? ⟨p.block, p.off + 12, none⟩ = some (.int .i64 y12)
theorem AtRec.below {W W1 : World} {p : Addr} {y0 y1 y2 y3 y4 : Int} {y5 y6 y7 : ByteArray} {y8 : Int} {v9 v10 : Value} {y11 y12 : Int} (h : AtRec W p y0 y1 y2 y3 y4 y5 y6 y7 y8 v9 v10 y11 y12) (hb : Below W.heap.size W W1) : AtRec W1 p y0 y1 y2 y3 y4 y5 y6 y7 y8 v9 v10 y11 y12 := by
  obtain ⟨h0, h1, h2, h3, h4, h5, h6, h7, h8, h9, h10, h11, h12⟩ := h
  exact ⟨below_cell hb h0, below_cell hb h1, below_cell hb h2, below_cell hb h3, below_cell hb h4, below_cell hb h5, below_cell hb h6, below_cell hb h7, below_cell hb h8, below_cell hb h9, below_cell hb h10, below_cell hb h11, below_cell hb h12⟩
def law_Logs.T10 : Bool × List (List Nat × List Nat) := (true, [([], []), ([], []), ([], []), ([1, 2], [1, 2]), ([3], [3]), ([], []), ([], []), ([5, 6], [5, 6]), ([7], [7]), ([4, 8], [4, 8]), ([0, 9], [0, 9]), ([10], [10]), ([11, 9, 0, 1, 2, 3, 4, 5, 6, 7, 8, 9, 10, 11], [0, 11])])
def law_Logs.B10 : List Nat := [0, 0, 0, 6, 14, 0, 0, 96, 224, 510, 1023, 2047, 4095]
theorem law_Logs.tab10 : rtab .any (opsOf Tryz.f3 10) = law_Logs.T10 := by kernel_rfl
theorem law_Logs.bits10 : waitsOk law_Logs.T10.2 law_Logs.B10 = true := by kernel_rfl
def law_Logs.T13 : Bool × List (List Nat × List Nat) := (true, [([], []), ([], []), ([0, 1], [0, 1]), ([2], [2]), ([3], [3]), ([], []), ([], []), ([5, 6], [5, 6]), ([7], [7]), ([8], [8]), ([9], [9]), ([10], [10]), ([11], [11]), ([4, 0, 1, 2, 3, 4, 5, 6, 7, 8, 9, 10, 11, 12], [4]), ([13, 12, 0, 1, 2, 3, 4, 5, 6, 7, 8, 9, 10, 11, 12], [12, 13])])
def law_Logs.B13 : List Nat := [0, 0, 3, 7, 15, 0, 0, 96, 224, 480, 992, 2016, 4064, 8191, 16383]
theorem law_Logs.tab13 : rtab .any (opsOf Tryz.f3 13) = law_Logs.T13 := by kernel_rfl
theorem law_Logs.bits13 : waitsOk law_Logs.T13.2 law_Logs.B13 = true := by kernel_rfl
def law_Logs.T14 : Bool × List (List Nat × List Nat) := (true, [([], []), ([0], [0]), ([], []), ([1, 2], [1, 2]), ([3, 1], [3]), ([4], [4]), ([5, 4, 4], [4, 5]), ([4], [4]), ([6, 7, 4], [4, 6, 7]), ([4, 8], [4, 8]), ([9, 6], [9]), ([10, 10], [10]), ([10, 11], [10, 11]), ([12, 11, 0, 1, 2, 3, 4, 5, 6, 7, 8, 9, 10, 11, 12], [12])])
def law_Logs.B14 : List Nat := [0, 1, 0, 7, 15, 31, 63, 31, 255, 511, 1023, 2047, 4095, 8191]
theorem law_Logs.tab14 : rtab .any (opsOf Tryz.f3 14) = law_Logs.T14 := by kernel_rfl
theorem law_Logs.bits14 : waitsOk law_Logs.T14.2 law_Logs.B14 = true := by kernel_rfl
set_option maxHeartbeats 16000000 in
set_option maxRecDepth 100000 in
theorem sayLogs_ (A1 : Option Addr) (c1 : Nat) (l : List RecT) (w : World) (hr : Kd.C kRec w A1 l.length l) :
    Calls Tryz.prog 3 #[.slice A1 l.length c1] w fun e w' => e = .returned (.bool true) ∧ Below w.heap.size w w' := by
  have HLOG := Aside0.mk (law_Log A1 c1 l 40 w hr); clear hr
  go_enter Tryz.func3, Tryz.ntmps3
  go_wp2_with fail
  refine HLOG.out.mono ?_
  rintro e w1 ⟨L, d, all, rfl, hL, hs, hge, hb⟩
  have HSL := Aside0.mk (fun W (h : IsLog W L d 0 200 1 all 0) => say_Log L d 0 200 1 all 0 W h hs)
  have HST := Aside0.mk (fun W (h : IsLog W L d 0 200 1 all 0) => say_Tally L d 0 200 1 all 0 W h hs)
  have HR := Aside0.mk (log_Records L d 0 200 1 all 0 w1 hL hs)
  obtain ⟨hft, hln, hll⟩ := recsF_fit all hs
  have HZ := Aside0.mk (logB_size (recsF all).1 (recsF all).2 hft)
  generalize recsF all = RP at *
  obtain ⟨rs, ps⟩ := RP
  dsimp only at HR HSL HST HZ hft hln hll
  have HFT := Aside0.mk hft; have HLP := Aside0.mk hln; have HLN := Aside0.mk hll; have HL1 := Aside0.mk hL; have HB1 := Aside0.mk hb; clear hft hln hll hL hs hb hge HLOG
  go_wp2_with fail
  refine HR.out.mono ?_
  rintro e w2 ⟨v1, v2, rfl, q1, q2, hb⟩
  obtain ⟨A1, d1, rfl⟩ := Kd.R_slice q1
  obtain ⟨A2, d2, rfl⟩ := Kd.R_slice q2
  have HL2 := Aside0.mk (HL1.out.below hb); have HB2 := Aside0.mk (below_step HB1.out hb)
  obtain ⟨g, hg⟩ : ∃ g, g = w2.heap.size := ⟨_, rfl⟩
  obtain ⟨W3, hW3⟩ : ∃ W3, W3 = w2.alloc (.cells #[.int .i64 0, .int .i64 0, .int .i64 0, .int .i64 0, .int .i64 0, .int .i64 0, .int .i64 0, .int .i64 0, .int .i64 0, .int .i64 0, .int .i64 0] 28) := ⟨_, rfl⟩
  have hb3 : Below w2.heap.size w2 W3 := by rw [hW3]; exact below_alloc (Below.refl _ _) _
  have HA3 : Aside0 (IsArr W3 g (cnt rs 0)) := ⟨by rw [hW3, hg]; exact blk_new w2 _⟩
  have HG : Aside0 (L ≠ g ∧ w.heap.size ≤ g) := ⟨by have := blk_lt HL2.out; have := HB2.out.size; omega⟩
  have Q1 := Aside0.mk (Kd.R_below q1 hb3); have Q2 := Aside0.mk (Kd.R_below q2 hb3); have HL3 := Aside0.mk (HL2.out.below hb3); have HB3 := Aside0.mk (below_step HB2.out hb3); clear q1 q2 hb hb3 HR HL1 HL2 HB1 HB2
  go_upto_region 7 with fail
  rw [← hg, ← hW3]
  clear hg hW3
  go_wp2_with fail
  go_loopg [6, 8] (rs.length) (fun kq v6 v8 w' => ∃ i : Int, v8 = .int .i64 i ∧ v6 = .string (logB rs ps i.toNat) ∧ Aside0 (0 ≤ i ∧ i.toNat + kq = rs.length) ∧ Aside0 (IsArr w' g (cnt rs i.toNat)) ∧ Aside0 (IsLog w' L d 0 200 1 all 0) ∧ Aside0 (Kd.R kRec 33 w' w1.heap.size (fun _ => True) (.slice A1 rs.length d1) rs) ∧ Aside0 (Kd.R (Kd.int .i64) 3 w' w1.heap.size (fun _ => True) (.slice A2 ps.length d2) ps) ∧ Aside0 (Below w.heap.size w w'))
  case atStart => exact ⟨0, rfl, rfl, ⟨by omega, by simp⟩, HA3, HL3, Q1, Q2, HB3⟩
  case round =>
    clear HA3 HL3 Q1 Q2 HB3
    obtain ⟨i, rfl, rfl, HN, HA, HL, HR1, HR2, HB⟩ := hrel
    cases gk with
    | zero =>
      have b0 : decide (i < (rs.length : Int)) = false := decide_eq_false (by have := HN.out; omega)
      have hn : i.toNat = rs.length := by have := HN.out; omega
      rw [hn] at HA ⊢
      clear hn
      generalize logB rs ps rs.length = T at HSL ⊢
      generalize cnt rs rs.length = tt at HST HA
      have eq_ := eq28 tt
      unfold arrC at eq_ HST
      go_upto_region 14 with fail
      refine start_ (n := 14) (S := fun w' => Below wr.drew.heap.size wr.drew w') (ds := []) #[false, false, false, false, false, false, false, false, false, false, false, false, false, false] (by kernel_rfl) rfl rfl (Below.refl _ _) (fun hHeld => ?_); refine with_tabW law_Logs.tab14 law_Logs.bits14 (fun HT_ HW_ => ?_)
      refine ord_ [0, 2, 1, 3, 4, 5, 7, 6, 8, 9, 10, 11, 12, 13] ?_
      have HA0 := Aside0.mk (show IsArr wr.drew g _ from HA.out); have HL0 := Aside0.mk (show IsLog wr.drew L d 0 200 1 all 0 from HL.out); have HB0 := Aside0.mk (below_drew HB.out); clear HA HL HB
      generalize wr.drew = V0 at HA0 HL0 HB0 hHeld ⊢
      iterate 2
        refine ordP (v := ?_) (a' := ?_) HT_ rfl rfl (by kernel_rfl) (fun _ _ _ h => h) (.inl ⟨by rfl, ?_⟩) ?_ ?_
        rotate_left
        · intro w'
          go_simp
          with_reducible rfl
        rotate_left
        · simp only [Act.put, List.setIfInBounds_toArray, List.set_cons_zero, List.set_cons_succ, i64_w, i32_w]
          rfl
      refine ord1 (N := some 65) HT_ rfl rfl (by kernel_rfl) (by decide) (fun K hK => ?_)
      refine goes_ Tryz.func7 (by kernel_rfl) rfl #[.pointer (some ⟨L, 0, none⟩)] (by rfl) rfl rfl (by (try simp only [List.map_toArray, List.map_cons, List.map_nil]); rfl) ?_
      have AA := HSL.out V0 HL0.out
      refine AA.mono ?_
      clear AA
      rintro e V1 ⟨rfl, hb⟩
      refine ⟨_, rfl, ?_⟩
      have HL1 := Aside0.mk (HL0.out.below hb)
      refine hK.out _ _ (below_step hHeld hb) (fun hHeld2 => ?_)
      clear hK K hb hHeld; have hHeld := hHeld2; clear hHeld2
      refine ordN (a' := ?_) ?_ ?_
      rotate_left
      · simp only [Act.put, List.setIfInBounds_toArray, List.set_cons_zero, List.set_cons_succ]
        rfl
      iterate 4
        first
        | refine ordP (v := ?_) (a' := ?_) HT_ rfl rfl (by kernel_rfl) (fun _ _ _ h => h) (.inl ⟨by rfl, ?_⟩) ?_ ?_
          rotate_left
          · intro w'
            go_simp
            with_reducible rfl
          rotate_left
          · simp only [Act.put, List.setIfInBounds_toArray, List.set_cons_zero, List.set_cons_succ, i64_w, i32_w]
            rfl
        | refine ordT (v := ?_) (a' := ?_) HT_ HW_ rfl rfl (by kernel_rfl) (fun _ _ _ h => h) (.inl ⟨by rfl, ?_⟩) hHeld ?_ ?_
          rotate_left
          · intro w' hs
            obtain ⟨c0, f0, c1, f1, c2, f2, c3, f3, c4, f4, c5, f5, c6, f6, c7, f7, c8, f8, c9, f9, c10, f10⟩ := (HA0.out.below hs).all
            go_simp
            with_reducible rfl
          rotate_left
          · simp only [Act.put, List.setIfInBounds_toArray, List.set_cons_zero, List.set_cons_succ, i64_w, i32_w]
            rfl
      refine ord1 (N := some 70) HT_ rfl rfl (by kernel_rfl) (by decide) (fun K hK => ?_)
      refine goes_ Tryz.func8 (by kernel_rfl) rfl #[.pointer (some ⟨L, 0, none⟩)] (by rfl) rfl rfl (by (try simp only [List.map_toArray, List.map_cons, List.map_nil]); rfl) ?_
      have AA := HST.out V1 HL1.out
      refine AA.mono ?_
      clear AA
      rintro e V2 ⟨rfl, hb⟩
      refine ⟨_, rfl, ?_⟩
      refine hK.out _ _ (below_step hHeld hb) (fun hHeld2 => ?_)
      clear hK K hb hHeld; have hHeld := hHeld2; clear hHeld2
      refine ordN (a' := ?_) ?_ ?_
      rotate_left
      · simp only [Act.put, List.setIfInBounds_toArray, List.set_cons_zero, List.set_cons_succ]
        rfl
      iterate 3
        refine ordP (v := ?_) (a' := ?_) HT_ rfl rfl (by kernel_rfl) (fun _ _ _ h => h) (.inl ⟨by rfl, ?_⟩) ?_ ?_
        rotate_left
        · intro w'
          go_simp
          with_reducible rfl
        rotate_left
        · simp only [Act.put, List.setIfInBounds_toArray, List.set_cons_zero, List.set_cons_succ, i64_w, i32_w]
          rfl
      refine ord1 (N := some 75) HT_ rfl rfl (by kernel_rfl) (by decide) (fun K hK => ?_)
      refine goes_ Tryz.func9 (by kernel_rfl) rfl #[] (by rfl) rfl rfl (by simp) ?_
      have AA := awake_ V2
      refine AA.mono ?_
      clear AA
      rintro e V3 ⟨rfl, hb⟩
      refine ⟨_, rfl, ?_⟩
      refine hK.out _ _ (below_step hHeld hb) (fun hHeld2 => ?_)
      clear hK K hb hHeld; have hHeld := hHeld2; clear hHeld2
      refine ordN (a' := ?_) ?_ ?_
      rotate_left
      · simp only [Act.put, List.setIfInBounds_toArray, List.set_cons_zero, List.set_cons_succ]
        rfl
      iterate 2
        refine ordP (v := ?_) (a' := ?_) HT_ rfl rfl (by kernel_rfl) (fun _ _ _ h => h) (.inl ⟨by rfl, ?_⟩) ?_ ?_
        rotate_left
        · intro w'
          go_simp
          with_reducible rfl
        rotate_left
        · simp only [Act.put, List.setIfInBounds_toArray, List.set_cons_zero, List.set_cons_succ, i64_w, i32_w]
          rfl
      refine ordD HT_ (by kernel_rfl) ?_
      clear HT_ HW_
      go_wp2_with fail
      go_ret
      exact ⟨rfl, below_step HB0.out hHeld⟩
    | succ k1 =>
      have hi : i < (rs.length : Int) := by have := HN.out; omega
      have h0 : 0 ≤ i := HN.out.1
      have b0 : decide (i < (rs.length : Int)) = true := decide_eq_true hi
      have hw : wrap64 (i + 1) = i + 1 := w64 (by omega) (by have := HLN.out; omega)
      have hnx : (i + 1).toNat = i.toNat + 1 := by omega
      obtain ⟨ad, A9, c9, A10, c10, rfl, z0, z1, z2, z3, z4, z5, z6, z7, z8, z9, z10, z11, z12, q9, hc9, q10, hc10⟩ := at_Rec (Kd.R_reads' HR1.out).2.2 i h0 hi
      have hi2 : i < (ps.length : Int) := by have := HLP.out; omega
      obtain ⟨ad2, rfl, x0_⟩ := at_int (Kd.R_reads' HR2.out).2.2 i h0 hi2
      have hy : Fit (rd_Rec rs i) := HFT.out _ (rd_mem rs i h0 hi)
      have hst : logB rs ps (i.toNat + 1) = (logB rs ps i.toNat ++ lineB (cleanY (rd_Rec rs i)) (rdOf 0 ps i)) ++ ⟨#[10]⟩ := rfl
      generalize rdOf 0 ps i = pq at x0_ hst
      have HYE := Aside0.mk (show (rs.getD i.toNat zRec).1 = (rd_Rec rs i).1 from rfl)
      generalize rd_Rec rs i = y at *
      obtain ⟨y0, y1, y2, y3, y4, y5, y6, y7, y8, m9, m10, y11, y12⟩ := y
      dsimp only [cleanY] at z0 z1 z2 z3 z4 z5 z6 z7 z8 z9 z10 z11 z12 q9 hc9 q10 hc10 hst
      dsimp only at HYE
      have HST1 := Aside0.mk hst; have HY := Aside0.mk hy; have Q9 := Aside0.mk q9; have Q10 := Aside0.mk q10; have HC9 := Aside0.mk hc9; have HC10 := Aside0.mk hc10; clear hst hy q9 hc9 q10 hc10
      have HC : Aside0 (AtRec wr (ad.add (i.toNat * 13)) y0 y1 y2 y3 y4 y5 y6 y7 y8 (.slice A9 m9.length c9) (.slice A10 m10.length c10) y11 y12) := ⟨⟨z0, z1, z2, z3, z4, z5, z6, z7, z8, z9, z10, z11, z12⟩⟩
      have HTL := Aside0.mk (lineY_size _ pq HY.out)
      dsimp only [cleanY] at HTL
      have HREC := Aside0.mk (fun (V0 : World) (h9 : Kd.C k144 V0 A9 m9.length m9) (h10 : Kd.C k36 V0 A10 m10.length m10) (V : World) (hv : Below V0.heap.size V0 V) => law_line y0 y1 y2 y3 y4 y5 y6 y7 y8 A9 c9 m9 A10 c10 m10 y11 y12 pq V (Kd.C_below h9 hv) HC9.out (Kd.C_below h10 hv) HC10.out HY.out.2.1 HY.out.2.2.1 HY.out.2.2.2.1 HY.out.2.2.2.2.1 HY.out.2.2.2.2.2)
      generalize lineB (cleanR y0 y1 y2 y3 y4 y5 y6 y7 y8 m9 m10 y11 y12) pq = tl at HTL HREC HST1
      have u0 : (9223372036854775807 < (logB rs ps i.toNat).size + tl.size) = False := eq_false (Nat.not_lt.2 (by have := HTL.out; have := HZ.out i.toNat (by omega); have := HLN.out; omega))
      have u1 : (9223372036854775807 < (logB rs ps i.toNat).size + tl.size + 1) = False := eq_false (Nat.not_lt.2 (by have := HTL.out; have := HZ.out i.toNat (by omega); have := HLN.out; omega))
      generalize logB rs ps i.toNat = lg at HST1 u0 u1 ⊢
      clear z0 z1 z2 z3 z4 z5 z6 z7 z8 z9 z10 z11 z12
      go_upto_region 10 with fail
      refine start_ (n := 13) (S := fun w' => Below wr.drew.heap.size wr.drew w') (ds := []) #[false, false, false, false, false, false, false, false, false, false, false, false, false] (by kernel_rfl) rfl rfl (Below.refl _ _) (fun hHeld => ?_); refine with_tabW law_Logs.tab10 law_Logs.bits10 (fun HT_ HW_ => ?_)
      refine ord_ [0, 1, 2, 3, 4, 5, 6, 7, 8, 9, 10, 11, 12] ?_
      have HA0 := Aside0.mk (show IsArr wr.drew g _ from HA.out); have HL0 := Aside0.mk (show IsLog wr.drew L d 0 200 1 all 0 from HL.out); have HR10 := Aside0.mk (Kd.R_drew HR1.out); have HR20 := Aside0.mk (Kd.R_drew HR2.out); have HB0 := Aside0.mk (below_drew HB.out); have HC0 := Aside0.mk (show AtRec wr.drew _ y0 y1 y2 y3 y4 y5 y6 y7 y8 (.slice A9 m9.length c9) (.slice A10 m10.length c10) y11 y12 from HC.out); have Q9 := Aside0.mk (show Kd.C k144 wr.drew _ _ _ from Q9.out); have Q10 := Aside0.mk (show Kd.C k36 wr.drew _ _ _ from Q10.out)
      have f1_ := Aside0.mk (show wr.drew.cell? _ = _ from x0_)
      clear HA HL HR1 HR2 HB HC x0_
      generalize wr.drew = V0 at HA0 HL0 HR10 HR20 HB0 HC0 Q9 Q10 f1_ hHeld ⊢
      iterate 9
        first
        | refine ordP (v := ?_) (a' := ?_) HT_ rfl rfl (by kernel_rfl) (fun _ _ _ h => h) (.inl ⟨by rfl, ?_⟩) ?_ ?_
          rotate_left
          · intro w'
            go_simp
            with_reducible rfl
          rotate_left
          · simp only [Act.put, List.setIfInBounds_toArray, List.set_cons_zero, List.set_cons_succ, i64_w, i32_w]
            rfl
        | refine ordT (v := ?_) (a' := ?_) HT_ HW_ rfl rfl (by kernel_rfl) (fun _ _ _ h => h) (.inl ⟨by rfl, ?_⟩) hHeld ?_ ?_
          rotate_left
          · intro w' hs
            obtain ⟨s0, s1, s2, s3, s4, s5, s6, s7, s8, s9, s10, s11, s12⟩ := HC0.out.below hs
            have f1_x := below_cell hs f1_.out
            go_simp
            with_reducible rfl
          rotate_left
          · simp only [Act.put, List.setIfInBounds_toArray, List.set_cons_zero, List.set_cons_succ, i64_w, i32_w]
            rfl
      refine ord1 (N := some 33) HT_ rfl rfl (by kernel_rfl) (by decide) (fun K hK => ?_)
      refine goes_ Tryz.func6 (by kernel_rfl) rfl #[.agg #[.int .i64 y0, .int .i64 y1, .int .i64 y2, .int .i64 y3, .int .i64 y4, .string y5, .string y6, .string y7, .int .i64 y8, .slice A9 m9.length c9, .slice A10 m10.length c10, .int .i64 y11, .int .i64 y12], .int .i64 pq] (by rfl) rfl rfl (by (try simp only [List.map_toArray, List.map_cons, List.map_nil]); rfl) ?_
      have AA := HREC.out V0 Q9.out Q10.out V0 (Below.refl _ _)
      refine AA.mono ?_
      clear AA
      rintro e V1 ⟨rfl, hb⟩
      refine ⟨_, rfl, ?_⟩
      refine hK.out _ _ (below_step hHeld hb) (fun hHeld2 => ?_)
      clear hK K hb hHeld HREC; have hHeld := hHeld2; clear hHeld2
      refine ordN (a' := ?_) ?_ ?_
      rotate_left
      · simp only [Act.put, List.setIfInBounds_toArray, List.set_cons_zero, List.set_cons_succ]
        rfl
      iterate 3
        refine ordP (v := ?_) (a' := ?_) HT_ rfl rfl (by kernel_rfl) (fun _ _ _ h => h) (.inl ⟨by rfl, ?_⟩) ?_ ?_
        rotate_left
        · intro w'
          go_simp
          with_reducible rfl
        rotate_left
        · simp only [Act.put, List.setIfInBounds_toArray, List.set_cons_zero, List.set_cons_succ, i64_w, i32_w]
          rfl
      refine ordD HT_ (by kernel_rfl) ?_
      clear HT_ HW_ u0 u1; have HA := Aside0.mk (HA0.out.below hHeld); have HL := Aside0.mk (HL0.out.below hHeld); have HR1 := Aside0.mk (Kd.R_below HR10.out hHeld); have HR2 := Aside0.mk (Kd.R_below HR20.out hHeld); have HB := Aside0.mk (below_step HB0.out hHeld); have HC := Aside0.mk (HC0.out.below hHeld); clear hHeld HA0 HL0 HR10 HR20 HB0 HC0 Q9 Q10 f1_
      have hy0 : 0 ≤ y0 := by have := HY.out.1.1; omega
      have hy1 : y0 < 11 := by have := HY.out.1.2; omega
      have b1 : decide (y0 < 1) = false := decide_eq_false (by have := HY.out.1.1; omega)
      have b2 : decide (10 < y0) = false := decide_eq_false (by have := HY.out.1.2; omega)
      have hk : y0.toNat < 11 := by omega
      have HCN := Aside0.mk (cnt_le rs i.toNat y0.toNat)
      have hwc : wrap64 (cnt rs i.toNat y0.toNat + 1) = cnt rs i.toNat y0.toNat + 1 := w64 (by have := HCN.out; omega) (by have := HCN.out; have := HLN.out; omega)
      have fa0_ := IsArr.get HA.out y0.toNat hk
      have HST2 : Aside0 (cnt rs (i.toNat + 1) = fun j => if j = y0.toNat then cnt rs i.toNat y0.toNat + 1 else cnt rs i.toNat j) := ⟨by
        funext j
        show (if j = (rs.getD i.toNat zRec).1.toNat then cnt rs i.toNat j + 1 else cnt rs i.toNat j) = _
        rw [HYE.out]
        by_cases hj : j = y0.toNat
        · rw [if_pos hj, if_pos hj, hj]
        · rw [if_neg hj, if_neg hj]⟩
      generalize cnt rs i.toNat y0.toNat = cv at fa0_ hwc HST2
      have s0 := HC.out.1
      go_upto_region 13 with fail
      clear s0 b1 b2
      refine start_ (n := 15) (S := fun w' => Below V1.drew.heap.size V1.drew w') (ds := [14]) #[false, false, false, false, false, false, false, false, false, false, false, false, false, false, false] (by kernel_rfl) rfl rfl (Below.refl _ _) (fun hHeld => ?_); refine with_tabW law_Logs.tab13 law_Logs.bits13 (fun HT_ HW_ => ?_)
      refine ord_ [0, 1, 2, 3, 4, 5, 6, 7, 8, 9, 10, 11, 12, 13, 14] ?_
      have HA0 := Aside0.mk (show IsArr V1.drew g _ from HA.out); have HL0 := Aside0.mk (show IsLog V1.drew L d 0 200 1 all 0 from HL.out); have HR10 := Aside0.mk (Kd.R_drew HR1.out); have HR20 := Aside0.mk (Kd.R_drew HR2.out); have HB0 := Aside0.mk (below_drew HB.out); have HC0 := Aside0.mk (show AtRec V1.drew _ y0 y1 y2 y3 y4 y5 y6 y7 y8 (.slice A9 m9.length c9) (.slice A10 m10.length c10) y11 y12 from HC.out)
      have fa_ := Aside0.mk (show V1.drew.cell? _ = _ from fa0_)
      clear HA HL HR1 HR2 HB HC fa0_
      generalize V1.drew = V0 at HA0 HL0 HR10 HR20 HB0 HC0 fa_ hHeld ⊢
      have fz_ : V0.frozen? ⟨g, y0.toNat, none⟩ = false := Lib.frozen_of_heap HA0.out y0.toNat
      have fy_ := fa_.out
      iterate 14
        first
        | refine ordP (v := ?_) (a' := ?_) HT_ rfl rfl (by kernel_rfl) (fun _ _ _ h => h) (.inl ⟨by rfl, ?_⟩) ?_ ?_
          rotate_left
          · intro w'
            go_simp
            with_reducible rfl
          rotate_left
          · simp only [Act.put, List.setIfInBounds_toArray, List.set_cons_zero, List.set_cons_succ, i64_w, i32_w]
            rfl
        | refine ordT (v := ?_) (a' := ?_) HT_ HW_ rfl rfl (by kernel_rfl) (fun _ _ _ h => h) (.inl ⟨by rfl, ?_⟩) hHeld ?_ ?_
          rotate_left
          · intro w' hs
            have s0 := (HC0.out.below hs).1; have s1 := below_cell hs fa_.out
            go_simp
            with_reducible rfl
          rotate_left
          · simp only [Act.put, List.setIfInBounds_toArray, List.set_cons_zero, List.set_cons_succ, i64_w, i32_w]
            rfl
      refine ordL (N := none) HT_ rfl rfl (by kernel_rfl) (by decide) (fun K hK => ?_)
      with_reducible refine store_step (w1 := V0.setCell ⟨g, y0.toNat, none⟩ (.int .i64 (cv + 1))) ?hw ?hd ?hr ?_
      case hw => rfl
      case hd => rfl
      case hr => first | (go_simp; done) | (go_simp; rfl)
      refine hK.out _ _ ?_
      clear hK K
      refine ordD HT_ (by kernel_rfl) ?_
      clear HT_ HW_ fz_ fy_ hHeld
      have HX := Aside0.mk (IsArr.set HA0.out y0.toNat hk (cv + 1))
      have HX : Aside0 (IsArr (V0.setCell ⟨g, y0.toNat, none⟩ (.int .i64 (cv + 1))) g (cnt rs (i.toNat + 1))) := ⟨by rw [HST2.out]; exact HX.out⟩
      have HL := Aside0.mk (show IsLog (V0.setCell ⟨g, y0.toNat, none⟩ (.int .i64 (cv + 1))) L d 0 200 1 all 0 from (Below.heap_setCell _ _ _ _ HG.out.1).trans HL0.out)
      have HR1 := Aside0.mk (Kd.R_set HR10.out HA0.out (by decide) y0.toNat (.int .i64 (cv + 1)))
      have HR2 := Aside0.mk (Kd.R_set HR20.out HA0.out (by decide) y0.toNat (.int .i64 (cv + 1)))
      have HB := Aside0.mk (HB0.out.setCell (p := ⟨g, y0.toNat, none⟩) HG.out.2 (.int .i64 (cv + 1)))
      clear HA0 HL0 HR10 HR20 HB0 HC0 fa_
      go_wp2_with fail
      go_roundg k1
      case measure => omega
      case rel => exact ⟨i + 1, by first | rfl | rw [hw], by rw [hnx, HST1.out], ⟨by omega, by have := HN.out; omega⟩, ⟨by rw [hnx]; exact HX.out⟩, HL, HR1, HR2, HB⟩
end Go.Proofs.YteoebfiacnploaaGreatDoor.HRec
