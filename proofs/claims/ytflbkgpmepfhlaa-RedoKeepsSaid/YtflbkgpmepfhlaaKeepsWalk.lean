/- The walk of the statement RedoKeeps: whatever spans, epoch, place and end come in, it answers true. -/
import Derived.Test.YtflbkgpmepfhlaaKeepsPure
import Derived.WalkKit
namespace Go.Proofs.Ytflbkgpmepfhlaa.Keeps
open Go.RowKit Go.Proofs.Ytflbkgpmepfhlaa.PRedoKeeps Go.Proofs.YtflbkgpmepfhlaaW.PrintWords Go.Proofs.YtflbkgpmepfhlaaW.PrintLast Go.Proofs.YtflbkgpmepfhlaaW.PrintMore
attribute [local go_sem] max2_int min2_int max_two min_two max_three min_three max_four min_four
set_option linter.unusedVariables false

set_option maxHeartbeats 8000000 in
set_option maxRecDepth 100000 in
theorem keeps_short_less (A0 : Option Addr) (c0 : Nat) (l : List S26) (e a en : Int) (w : World) (hR : Kd.C k26 w A0 l.length l) (hC : l.length ≤ c0) (hM : l.length ≤ 100) (hlt0 : en < a) :
    Calls Try.prog 4 #[.slice A0 l.length c0, .int .i64 e, .int .i64 a, .int .i64 en] w fun x w' => x = .returned (.bool true) ∧ Below w.heap.size w w' := by
  have hu26 := Try.underlying26
  have hr0 := hR
  have hm := hM
  have hc0 := hC
  have hlong : decide ((100 : Int) < (l.length : Int)) = false := by simp; omega
  clear hR hC
  have HR0 := Aside0.mk hr0
  have HC0 := Aside0.mk hc0
  clear hr0 hc0
  have hA := Aside0.mk awake_f
  have HM := Aside0.mk (show mn a en = en by unfold mn; split <;> first | rfl | (exfalso; omega))
  have hless : decide (en < a) = true := decide_eq_true hlt0
  clear hlt0
  have hP := Aside0.mk (keep_f l e a en (by omega))
  obtain ⟨r1, hr1⟩ : ∃ r, r = keepOf l e (mn a en) := ⟨_, rfl⟩
  have HR1 := Aside0.mk hr1
  rw [← hr1] at hP
  clear hr1
  go_enter Try.func4, Try.ntmps4
  go_wp2_with fail
  go_loop [9, 10] (fun u v => ∃ j : Int, 0 ≤ j ∧ j ≤ (cnt l e : Int) ∧ u = .int .i64 en ∧ v = .int .i64 j) (fun _ v => cnt l e - (intOf v).toNat)
  case atStart => exact ⟨0, by omega, by omega, rfl, rfl⟩
  case round =>
    obtain ⟨j, hj0, hj, rfl, rfl⟩ := hrel
    have hcl := cnt_le l e
    by_cases hlt : j < (cnt l e : Int)
    · have hy := cnt_yes l e j.toNat (by omega)
      rw [show ((j.toNat : Nat) : Int) = j from by omega] at hy
      obtain ⟨ad, e1, hx0, hx1⟩ := at_T26 HR0.out j hj0 (by omega)
      cases e1
      have b0 : decide (j < (l.length : Int)) = true := by simp; omega
      have b1 : decide (e < (rd_T26 l j).f0) = false := by simpa using hy
      have q0 : j < (l.length : Int) := by omega
      go_wp2_with fail
      go_round
      case rel => exact ⟨j + 1, by omega, by omega, rfl, rfl⟩
      case measure => simp [intOf]; omega
    · have hjn := Aside0.mk (show j = (cnt l e : Int) by omega)
      have hq := Aside0.mk (keep_facts l e (mn a en) j hjn.out)
      have hjl : j ≤ (l.length : Int) := by omega
      clear hlt hj hcl
      by_cases hin : j < (l.length : Int)
      · obtain ⟨ad, e1, hx0, hx1⟩ := at_T26 HR0.out j hj0 hin
        cases e1
        have b0 : decide (j < (l.length : Int)) = true := decide_eq_true hin
        have b1 : decide (e < (rd_T26 l j).f0) = true := by have := (hq.out.1 hin).1; simp; omega
        go_wp2_with fail
        all_goals
          refine (redo_Keep.calls _ _ _ l e a en r1 _ ?side1 ?side2 hP.out).mono ?_
          case side1 => exact HR0.out
          case side2 => exact HC0.out
          rintro x w1 ⟨rfl, hb⟩
          go_wp2_with fail
        all_goals first
          | (refine (gharrylaw15_awake.calls 6 true _ hA.out).mono ?_; rintro x w2 ⟨rfl, hb2⟩; go_wp2_with fail; go_ret; exact ⟨rfl, hb.trans (hb2.mono hb.size)⟩)
          | (exfalso; have m1 := HR1.out; have m3 := HM.out; rw [(hq.out.1 hin).2, m3] at m1; unfold mn at m1; split at m1 <;> omega)
      · have b0 : decide (j < (l.length : Int)) = false := decide_eq_false hin
        go_wp2_with fail
        all_goals
          refine (redo_Keep.calls _ _ _ l e a en r1 _ ?side1 ?side2 hP.out).mono ?_
          case side1 => exact HR0.out
          case side2 => exact HC0.out
          rintro x w1 ⟨rfl, hb⟩
          go_wp2_with fail
        all_goals first
          | (refine (gharrylaw15_awake.calls 6 true _ hA.out).mono ?_; rintro x w2 ⟨rfl, hb2⟩; go_wp2_with fail; go_ret; exact ⟨rfl, hb.trans (hb2.mono hb.size)⟩)
          | (exfalso; have m1 := HR1.out; have m3 := HM.out; rw [hq.out.2 hin, m3] at m1; omega)

set_option maxHeartbeats 8000000 in
set_option maxRecDepth 100000 in
theorem keeps_short_more (A0 : Option Addr) (c0 : Nat) (l : List S26) (e a en : Int) (w : World) (hR : Kd.C k26 w A0 l.length l) (hC : l.length ≤ c0) (hM : l.length ≤ 100) (hlt0 : ¬ en < a) :
    Calls Try.prog 4 #[.slice A0 l.length c0, .int .i64 e, .int .i64 a, .int .i64 en] w fun x w' => x = .returned (.bool true) ∧ Below w.heap.size w w' := by
  have hu26 := Try.underlying26
  have hr0 := hR
  have hm := hM
  have hc0 := hC
  have hlong : decide ((100 : Int) < (l.length : Int)) = false := by simp; omega
  clear hR hC
  have HR0 := Aside0.mk hr0
  have HC0 := Aside0.mk hc0
  clear hr0 hc0
  have hA := Aside0.mk awake_f
  have HM := Aside0.mk (show mn a en = a by unfold mn; split <;> first | rfl | (exfalso; omega))
  have hless : decide (en < a) = false := decide_eq_false hlt0
  clear hlt0
  have hP := Aside0.mk (keep_f l e a en (by omega))
  obtain ⟨r1, hr1⟩ : ∃ r, r = keepOf l e (mn a en) := ⟨_, rfl⟩
  have HR1 := Aside0.mk hr1
  rw [← hr1] at hP
  clear hr1
  go_enter Try.func4, Try.ntmps4
  go_wp2_with fail
  go_loop [9, 10] (fun u v => ∃ j : Int, 0 ≤ j ∧ j ≤ (cnt l e : Int) ∧ u = .int .i64 a ∧ v = .int .i64 j) (fun _ v => cnt l e - (intOf v).toNat)
  case atStart => exact ⟨0, by omega, by omega, rfl, rfl⟩
  case round =>
    obtain ⟨j, hj0, hj, rfl, rfl⟩ := hrel
    have hcl := cnt_le l e
    by_cases hlt : j < (cnt l e : Int)
    · have hy := cnt_yes l e j.toNat (by omega)
      rw [show ((j.toNat : Nat) : Int) = j from by omega] at hy
      obtain ⟨ad, e1, hx0, hx1⟩ := at_T26 HR0.out j hj0 (by omega)
      cases e1
      have b0 : decide (j < (l.length : Int)) = true := by simp; omega
      have b1 : decide (e < (rd_T26 l j).f0) = false := by simpa using hy
      have q0 : j < (l.length : Int) := by omega
      go_wp2_with fail
      go_round
      case rel => exact ⟨j + 1, by omega, by omega, rfl, rfl⟩
      case measure => simp [intOf]; omega
    · have hjn := Aside0.mk (show j = (cnt l e : Int) by omega)
      have hq := Aside0.mk (keep_facts l e (mn a en) j hjn.out)
      have hjl : j ≤ (l.length : Int) := by omega
      clear hlt hj hcl
      by_cases hin : j < (l.length : Int)
      · obtain ⟨ad, e1, hx0, hx1⟩ := at_T26 HR0.out j hj0 hin
        cases e1
        have b0 : decide (j < (l.length : Int)) = true := decide_eq_true hin
        have b1 : decide (e < (rd_T26 l j).f0) = true := by have := (hq.out.1 hin).1; simp; omega
        go_wp2_with fail
        all_goals
          refine (redo_Keep.calls _ _ _ l e a en r1 _ ?side1 ?side2 hP.out).mono ?_
          case side1 => exact HR0.out
          case side2 => exact HC0.out
          rintro x w1 ⟨rfl, hb⟩
          go_wp2_with fail
        all_goals first
          | (refine (gharrylaw15_awake.calls 6 true _ hA.out).mono ?_; rintro x w2 ⟨rfl, hb2⟩; go_wp2_with fail; go_ret; exact ⟨rfl, hb.trans (hb2.mono hb.size)⟩)
          | (exfalso; have m1 := HR1.out; have m3 := HM.out; rw [(hq.out.1 hin).2, m3] at m1; unfold mn at m1; split at m1 <;> omega)
      · have b0 : decide (j < (l.length : Int)) = false := decide_eq_false hin
        go_wp2_with fail
        all_goals
          refine (redo_Keep.calls _ _ _ l e a en r1 _ ?side1 ?side2 hP.out).mono ?_
          case side1 => exact HR0.out
          case side2 => exact HC0.out
          rintro x w1 ⟨rfl, hb⟩
          go_wp2_with fail
        all_goals first
          | (refine (gharrylaw15_awake.calls 6 true _ hA.out).mono ?_; rintro x w2 ⟨rfl, hb2⟩; go_wp2_with fail; go_ret; exact ⟨rfl, hb.trans (hb2.mono hb.size)⟩)
          | (exfalso; have m1 := HR1.out; have m3 := HM.out; rw [hq.out.2 hin, m3] at m1; omega)

set_option maxHeartbeats 8000000 in
set_option maxRecDepth 100000 in
theorem keeps_long_less (A0 : Option Addr) (c0 : Nat) (L : List S26) (e a en : Int) (w : World) (hR : Kd.C k26 w A0 L.length L) (hC : L.length ≤ c0) (hM : 100 < L.length) (hlt0 : en < a) :
    Calls Try.prog 4 #[.slice A0 L.length c0, .int .i64 e, .int .i64 a, .int .i64 en] w fun x w' => x = .returned (.bool true) ∧ Below w.heap.size w w' := by
  have hu26 := Try.underlying26
  obtain ⟨l, hl⟩ : ∃ l, l = L.take 100 := ⟨_, rfl⟩
  have hr0 : Kd.C k26 w A0 l.length l := by rw [hl]; exact Kd.C_take hR (by omega)
  have hm : l.length ≤ 100 := by rw [hl, List.length_take]; omega
  have he : (100 : Int).toNat = l.length := by rw [hl, List.length_take]; omega
  have hc0 : l.length ≤ c0 := by omega
  obtain ⟨i0, hi0, _, hsz, _⟩ := info_parts info26
  have hcut := cut_to (P := Try.prog) 22 26 .i64 Try.underlying22 hi0 A0 L.length c0 100 (by omega) (by omega) hC
  rw [he] at hcut
  have hlong : decide ((100 : Int) < (L.length : Int)) = true := by simp; omega
  clear hl he hi0 hsz hR
  have HR0 := Aside0.mk hr0
  have HC0 := Aside0.mk hc0
  clear hr0 hc0
  have hA := Aside0.mk awake_f
  have HM := Aside0.mk (show mn a en = en by unfold mn; split <;> first | rfl | (exfalso; omega))
  have hless : decide (en < a) = true := decide_eq_true hlt0
  clear hlt0
  have hP := Aside0.mk (keep_f l e a en (by omega))
  obtain ⟨r1, hr1⟩ : ∃ r, r = keepOf l e (mn a en) := ⟨_, rfl⟩
  have HR1 := Aside0.mk hr1
  rw [← hr1] at hP
  clear hr1
  go_enter Try.func4, Try.ntmps4
  go_wp2_with fail
  go_loop [9, 10] (fun u v => ∃ j : Int, 0 ≤ j ∧ j ≤ (cnt l e : Int) ∧ u = .int .i64 en ∧ v = .int .i64 j) (fun _ v => cnt l e - (intOf v).toNat)
  case atStart => exact ⟨0, by omega, by omega, rfl, rfl⟩
  case round =>
    clear hcut
    obtain ⟨j, hj0, hj, rfl, rfl⟩ := hrel
    have hcl := cnt_le l e
    by_cases hlt : j < (cnt l e : Int)
    · have hy := cnt_yes l e j.toNat (by omega)
      rw [show ((j.toNat : Nat) : Int) = j from by omega] at hy
      obtain ⟨ad, e1, hx0, hx1⟩ := at_T26 HR0.out j hj0 (by omega)
      cases e1
      have b0 : decide (j < (l.length : Int)) = true := by simp; omega
      have b1 : decide (e < (rd_T26 l j).f0) = false := by simpa using hy
      have q0 : j < (l.length : Int) := by omega
      go_wp2_with fail
      go_round
      case rel => exact ⟨j + 1, by omega, by omega, rfl, rfl⟩
      case measure => simp [intOf]; omega
    · have hjn := Aside0.mk (show j = (cnt l e : Int) by omega)
      have hq := Aside0.mk (keep_facts l e (mn a en) j hjn.out)
      have hjl : j ≤ (l.length : Int) := by omega
      clear hlt hj hcl
      by_cases hin : j < (l.length : Int)
      · obtain ⟨ad, e1, hx0, hx1⟩ := at_T26 HR0.out j hj0 hin
        cases e1
        have b0 : decide (j < (l.length : Int)) = true := decide_eq_true hin
        have b1 : decide (e < (rd_T26 l j).f0) = true := by have := (hq.out.1 hin).1; simp; omega
        go_wp2_with fail
        all_goals
          refine (redo_Keep.calls _ _ _ l e a en r1 _ ?side1 ?side2 hP.out).mono ?_
          case side1 => exact HR0.out
          case side2 => exact HC0.out
          rintro x w1 ⟨rfl, hb⟩
          go_wp2_with fail
        all_goals first
          | (refine (gharrylaw15_awake.calls 6 true _ hA.out).mono ?_; rintro x w2 ⟨rfl, hb2⟩; go_wp2_with fail; go_ret; exact ⟨rfl, hb.trans (hb2.mono hb.size)⟩)
          | (exfalso; have m1 := HR1.out; have m3 := HM.out; rw [(hq.out.1 hin).2, m3] at m1; unfold mn at m1; split at m1 <;> omega)
      · have b0 : decide (j < (l.length : Int)) = false := decide_eq_false hin
        go_wp2_with fail
        all_goals
          refine (redo_Keep.calls _ _ _ l e a en r1 _ ?side1 ?side2 hP.out).mono ?_
          case side1 => exact HR0.out
          case side2 => exact HC0.out
          rintro x w1 ⟨rfl, hb⟩
          go_wp2_with fail
        all_goals first
          | (refine (gharrylaw15_awake.calls 6 true _ hA.out).mono ?_; rintro x w2 ⟨rfl, hb2⟩; go_wp2_with fail; go_ret; exact ⟨rfl, hb.trans (hb2.mono hb.size)⟩)
          | (exfalso; have m1 := HR1.out; have m3 := HM.out; rw [hq.out.2 hin, m3] at m1; omega)

set_option maxHeartbeats 8000000 in
set_option maxRecDepth 100000 in
theorem keeps_long_more (A0 : Option Addr) (c0 : Nat) (L : List S26) (e a en : Int) (w : World) (hR : Kd.C k26 w A0 L.length L) (hC : L.length ≤ c0) (hM : 100 < L.length) (hlt0 : ¬ en < a) :
    Calls Try.prog 4 #[.slice A0 L.length c0, .int .i64 e, .int .i64 a, .int .i64 en] w fun x w' => x = .returned (.bool true) ∧ Below w.heap.size w w' := by
  have hu26 := Try.underlying26
  obtain ⟨l, hl⟩ : ∃ l, l = L.take 100 := ⟨_, rfl⟩
  have hr0 : Kd.C k26 w A0 l.length l := by rw [hl]; exact Kd.C_take hR (by omega)
  have hm : l.length ≤ 100 := by rw [hl, List.length_take]; omega
  have he : (100 : Int).toNat = l.length := by rw [hl, List.length_take]; omega
  have hc0 : l.length ≤ c0 := by omega
  obtain ⟨i0, hi0, _, hsz, _⟩ := info_parts info26
  have hcut := cut_to (P := Try.prog) 22 26 .i64 Try.underlying22 hi0 A0 L.length c0 100 (by omega) (by omega) hC
  rw [he] at hcut
  have hlong : decide ((100 : Int) < (L.length : Int)) = true := by simp; omega
  clear hl he hi0 hsz hR
  have HR0 := Aside0.mk hr0
  have HC0 := Aside0.mk hc0
  clear hr0 hc0
  have hA := Aside0.mk awake_f
  have HM := Aside0.mk (show mn a en = a by unfold mn; split <;> first | rfl | (exfalso; omega))
  have hless : decide (en < a) = false := decide_eq_false hlt0
  clear hlt0
  have hP := Aside0.mk (keep_f l e a en (by omega))
  obtain ⟨r1, hr1⟩ : ∃ r, r = keepOf l e (mn a en) := ⟨_, rfl⟩
  have HR1 := Aside0.mk hr1
  rw [← hr1] at hP
  clear hr1
  go_enter Try.func4, Try.ntmps4
  go_wp2_with fail
  go_loop [9, 10] (fun u v => ∃ j : Int, 0 ≤ j ∧ j ≤ (cnt l e : Int) ∧ u = .int .i64 a ∧ v = .int .i64 j) (fun _ v => cnt l e - (intOf v).toNat)
  case atStart => exact ⟨0, by omega, by omega, rfl, rfl⟩
  case round =>
    clear hcut
    obtain ⟨j, hj0, hj, rfl, rfl⟩ := hrel
    have hcl := cnt_le l e
    by_cases hlt : j < (cnt l e : Int)
    · have hy := cnt_yes l e j.toNat (by omega)
      rw [show ((j.toNat : Nat) : Int) = j from by omega] at hy
      obtain ⟨ad, e1, hx0, hx1⟩ := at_T26 HR0.out j hj0 (by omega)
      cases e1
      have b0 : decide (j < (l.length : Int)) = true := by simp; omega
      have b1 : decide (e < (rd_T26 l j).f0) = false := by simpa using hy
      have q0 : j < (l.length : Int) := by omega
      go_wp2_with fail
      go_round
      case rel => exact ⟨j + 1, by omega, by omega, rfl, rfl⟩
      case measure => simp [intOf]; omega
    · have hjn := Aside0.mk (show j = (cnt l e : Int) by omega)
      have hq := Aside0.mk (keep_facts l e (mn a en) j hjn.out)
      have hjl : j ≤ (l.length : Int) := by omega
      clear hlt hj hcl
      by_cases hin : j < (l.length : Int)
      · obtain ⟨ad, e1, hx0, hx1⟩ := at_T26 HR0.out j hj0 hin
        cases e1
        have b0 : decide (j < (l.length : Int)) = true := decide_eq_true hin
        have b1 : decide (e < (rd_T26 l j).f0) = true := by have := (hq.out.1 hin).1; simp; omega
        go_wp2_with fail
        all_goals
          refine (redo_Keep.calls _ _ _ l e a en r1 _ ?side1 ?side2 hP.out).mono ?_
          case side1 => exact HR0.out
          case side2 => exact HC0.out
          rintro x w1 ⟨rfl, hb⟩
          go_wp2_with fail
        all_goals first
          | (refine (gharrylaw15_awake.calls 6 true _ hA.out).mono ?_; rintro x w2 ⟨rfl, hb2⟩; go_wp2_with fail; go_ret; exact ⟨rfl, hb.trans (hb2.mono hb.size)⟩)
          | (exfalso; have m1 := HR1.out; have m3 := HM.out; rw [(hq.out.1 hin).2, m3] at m1; unfold mn at m1; split at m1 <;> omega)
      · have b0 : decide (j < (l.length : Int)) = false := decide_eq_false hin
        go_wp2_with fail
        all_goals
          refine (redo_Keep.calls _ _ _ l e a en r1 _ ?side1 ?side2 hP.out).mono ?_
          case side1 => exact HR0.out
          case side2 => exact HC0.out
          rintro x w1 ⟨rfl, hb⟩
          go_wp2_with fail
        all_goals first
          | (refine (gharrylaw15_awake.calls 6 true _ hA.out).mono ?_; rintro x w2 ⟨rfl, hb2⟩; go_wp2_with fail; go_ret; exact ⟨rfl, hb.trans (hb2.mono hb.size)⟩)
          | (exfalso; have m1 := HR1.out; have m3 := HM.out; rw [hq.out.2 hin, m3] at m1; omega)

theorem keeps_walk {W : World} (A0 : Option Addr) (c0 : Nat) (l : List S26) (hr0 : Kd.C k26 W A0 l.length l) (hc0 : l.length ≤ c0) (_ : l.length ≤ maxLen ∧ ∀ x ∈ l, (Lit.int .i64 x.f0).wf = true ∧ (Lit.int .i64 x.f1).wf = true)
    (e : Int) (_ : (Lit.int .i64 e).wf = true) (a : Int) (_ : (Lit.int .i64 a).wf = true) (en : Int) (_ : (Lit.int .i64 en).wf = true) :
    Calls Try.prog 4 #[.slice A0 l.length c0, .int .i64 e, .int .i64 a, .int .i64 en] W fun x w' => x = .returned (.bool true) ∧ Below W.heap.size W w' := by
  by_cases h : l.length ≤ 100 <;> by_cases h2 : en < a
  · exact keeps_short_less A0 c0 l e a en W hr0 hc0 h h2
  · exact keeps_short_more A0 c0 l e a en W hr0 hc0 h h2
  · exact keeps_long_less A0 c0 l e a en W hr0 hc0 (by omega) h2
  · exact keeps_long_more A0 c0 l e a en W hr0 hc0 (by omega) h2

end Go.Proofs.Ytflbkgpmepfhlaa.Keeps
