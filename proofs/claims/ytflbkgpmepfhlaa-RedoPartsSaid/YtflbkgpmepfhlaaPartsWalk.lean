/- The walk of the statement RedoParts: whatever spans, epoch and end come in, it answers true. -/
import Derived.Test.YtflbkgpmepfhlaaPartsPure
import Derived.WalkKit
namespace Go.Proofs.Ytflbkgpmepfhlaa.Parts
open Go.RowKit Go.Proofs.Ytflbkgpmepfhlaa.PRedoParts Go.Proofs.YtflbkgpmepfhlaaW.PrintWords Go.Proofs.YtflbkgpmepfhlaaW.PrintLast Go.Proofs.YtflbkgpmepfhlaaW.PrintMore
attribute [local go_sem] max2_int min2_int max_two min_two max_three min_three max_four min_four
set_option linter.unusedVariables false

set_option maxHeartbeats 8000000 in
set_option maxRecDepth 100000 in
theorem parts_short (A0 : Option Addr) (c0 : Nat) (l : List S26) (e en : Int) (w : World) (hr0 : Kd.C k26 w A0 l.length l) (hc0 : l.length ≤ c0) (hm : l.length ≤ 100) :
    Calls Try.prog 3 #[.slice A0 l.length c0, .int .i64 e, .int .i64 en] w fun x w' => x = .returned (.bool true) ∧ Below w.heap.size w w' := by
  have hu26 := Try.underlying26
  have HR0 := Aside0.mk hr0
  have HC0 := Aside0.mk hc0
  clear hr0 hc0
  have HB := Aside0.mk (Below.refl w.heap.size w)
  have hP := Aside0.mk (part_f l e en (by omega))
  have hA := Aside0.mk awake_f
  have hlong : decide ((100 : Int) < (l.length : Int)) = false := by simp; omega
  obtain ⟨r1, hr1⟩ : ∃ r, r = partLast l e := ⟨_, rfl⟩
  obtain ⟨r2, hr2⟩ : ∃ r, r = partAt l e en := ⟨_, rfl⟩
  have HR1 := Aside0.mk hr1
  have HR2 := Aside0.mk hr2
  rw [← hr1, ← hr2] at hP
  clear hr1 hr2
  go_enter Try.func3, Try.ntmps3
  go_wp2_with fail
  refine (redo_Part.calls _ _ _ l e en r1 r2 _ ?side1 ?side2 hP.out).mono ?_
  case side1 => exact HR0.out
  case side2 => exact HC0.out
  rintro x w1 ⟨rfl, hb⟩
  go_wp2_with fail
  go_loop [9] (fun v => ∃ j : Int, 0 ≤ j ∧ j ≤ (cnt l e : Int) ∧ v = .int .i64 j) (fun v => cnt l e - (intOf v).toNat)
  case atStart => exact ⟨0, by omega, by omega, rfl⟩
  case round =>
    obtain ⟨j, hj0, hj, rfl⟩ := hrel
    have hcl := cnt_le l e
    by_cases hlt : j < (cnt l e : Int)
    · have hy := cnt_yes l e j.toNat (by omega)
      rw [show ((j.toNat : Nat) : Int) = j from by omega] at hy
      obtain ⟨ad, e1, hx0, hx1⟩ := at_T26 HR0.out j hj0 (by omega)
      cases e1
      replace hx0 := (hb.cell (World.block_lt_of_cell? w _ hx0)).trans hx0
      have b0 : decide (j < (l.length : Int)) = true := by simp; omega
      have b1 : decide ((rd_T26 l j).f0 ≤ e) = true := by simpa using hy
      have q0 : j < (l.length : Int) := by omega
      go_wp2_with fail
      go_round
      case rel => exact ⟨j + 1, by omega, by omega, rfl⟩
      case measure => simp [intOf]; omega
    · have hjn := Aside0.mk (show j = (cnt l e : Int) by omega)
      have hq := Aside0.mk (parts_facts l e en j hjn.out)
      have hjl : j ≤ (l.length : Int) := by omega
      clear hlt hj hcl
      by_cases hin : j < (l.length : Int)
      · obtain ⟨ad, e1, hx0, hx1⟩ := at_T26 HR0.out j hj0 hin
        cases e1
        replace hx0 := (hb.cell (World.block_lt_of_cell? w _ hx0)).trans hx0
        replace hx1 := (hb.cell (World.block_lt_of_cell? w _ hx1)).trans hx1
        have b0 : decide (j < (l.length : Int)) = true := decide_eq_true hin
        have b1 : decide ((rd_T26 l j).f0 ≤ e) = false := decide_eq_false (hq.out.1 hin)
        by_cases hz : 0 < j
        · obtain ⟨ad2, e2, hy0, hy1⟩ := at_T26 HR0.out (j - 1) (by omega) (by omega)
          obtain rfl : ad = ad2 := by injection e2
          clear e2
          rw [show (j - 1).toNat = j.toNat - 1 from by omega] at hy0
          replace hy0 := (hb.cell (World.block_lt_of_cell? w _ hy0)).trans hy0
          have z0 : decide (0 < j) = true := decide_eq_true hz
          have q1 : (0 : Int) ≤ j - 1 := by omega
          have q2 : j - 1 < (l.length : Int) := by omega
          go_wp2_with fail
          all_goals first
            | (refine (gharrylaw15_awake.calls 6 true _ hA.out).mono ?_; rintro x w2 ⟨rfl, hb2⟩; go_wp2_with fail; go_ret; exact ⟨rfl, hb.trans (hb2.mono hb.size)⟩)
            | (exfalso; have m1 := HR1.out; have m2 := HR2.out; rw [(hq.out.2.2 hz).1] at m1; rw [(hq.out.2.2 hz).2.1 hin] at m2; unfold mn at m2; split at m2 <;> omega)
        · have z0 : decide (0 < j) = false := decide_eq_false hz
          go_wp2_with fail
          all_goals first
            | (refine (gharrylaw15_awake.calls 6 true _ hA.out).mono ?_; rintro x w2 ⟨rfl, hb2⟩; go_wp2_with fail; go_ret; exact ⟨rfl, hb.trans (hb2.mono hb.size)⟩)
            | (exfalso; have m1 := HR1.out; have m2 := HR2.out; rw [(hq.out.2.1 hz).1] at m1; rw [(hq.out.2.1 hz).2] at m2; unfold mn at m2; split at m2 <;> omega)
      · have b0 : decide (j < (l.length : Int)) = false := decide_eq_false hin
        by_cases hz : 0 < j
        · obtain ⟨ad, e1, hy0, hy1⟩ := at_T26 HR0.out (j - 1) (by omega) (by omega)
          cases e1
          rw [show (j - 1).toNat = j.toNat - 1 from by omega] at hy0
          replace hy0 := (hb.cell (World.block_lt_of_cell? w _ hy0)).trans hy0
          have z0 : decide (0 < j) = true := decide_eq_true hz
          have q1 : (0 : Int) ≤ j - 1 := by omega
          have q2 : j - 1 < (l.length : Int) := by omega
          go_wp2_with fail
          all_goals first
            | (refine (gharrylaw15_awake.calls 6 true _ hA.out).mono ?_; rintro x w2 ⟨rfl, hb2⟩; go_wp2_with fail; go_ret; exact ⟨rfl, hb.trans (hb2.mono hb.size)⟩)
            | (exfalso; have m1 := HR1.out; have m2 := HR2.out; rw [(hq.out.2.2 hz).1] at m1; rw [(hq.out.2.2 hz).2.2 hin] at m2; unfold mn at m2; split at m2 <;> omega)
        · have z0 : decide (0 < j) = false := decide_eq_false hz
          go_wp2_with fail
          all_goals first
            | (refine (gharrylaw15_awake.calls 6 true _ hA.out).mono ?_; rintro x w2 ⟨rfl, hb2⟩; go_wp2_with fail; go_ret; exact ⟨rfl, hb.trans (hb2.mono hb.size)⟩)
            | (exfalso; have m1 := HR1.out; have m2 := HR2.out; rw [(hq.out.2.1 hz).1] at m1; rw [(hq.out.2.1 hz).2] at m2; unfold mn at m2; split at m2 <;> omega)


set_option maxHeartbeats 8000000 in
set_option maxRecDepth 100000 in
theorem parts_long (A0 : Option Addr) (c0 : Nat) (L : List S26) (e en : Int) (w : World) (hR : Kd.C k26 w A0 L.length L) (hC : L.length ≤ c0) (hM : 100 < L.length) :
    Calls Try.prog 3 #[.slice A0 L.length c0, .int .i64 e, .int .i64 en] w fun x w' => x = .returned (.bool true) ∧ Below w.heap.size w w' := by
  have hu26 := Try.underlying26
  obtain ⟨l, hl⟩ : ∃ l, l = L.take 100 := ⟨_, rfl⟩
  have hr0 : Kd.C k26 w A0 l.length l := by rw [hl]; exact Kd.C_take hR (by omega)
  have hm : l.length ≤ 100 := by rw [hl, List.length_take]; omega
  have he : (100 : Int).toNat = l.length := by rw [hl, List.length_take]; omega
  have hc0 : l.length ≤ c0 := by omega
  obtain ⟨i0, hi0, _, hsz, _⟩ := info_parts info26
  have hcut := cut_to (P := Try.prog) 22 26 .i64 Try.underlying22 hi0 A0 L.length c0 100 (by omega) (by omega) hC
  rw [he] at hcut
  clear hl he hi0 hsz hR
  have HR0 := Aside0.mk hr0
  have HC0 := Aside0.mk hc0
  clear hr0 hc0
  have HB := Aside0.mk (Below.refl w.heap.size w)
  have hP := Aside0.mk (part_f l e en (by omega))
  have hA := Aside0.mk awake_f
  have hlong : decide ((100 : Int) < (L.length : Int)) = true := by simp; omega
  obtain ⟨r1, hr1⟩ : ∃ r, r = partLast l e := ⟨_, rfl⟩
  obtain ⟨r2, hr2⟩ : ∃ r, r = partAt l e en := ⟨_, rfl⟩
  have HR1 := Aside0.mk hr1
  have HR2 := Aside0.mk hr2
  rw [← hr1, ← hr2] at hP
  clear hr1 hr2
  go_enter Try.func3, Try.ntmps3
  go_wp2_with fail
  refine (redo_Part.calls _ _ _ l e en r1 r2 _ ?side1 ?side2 hP.out).mono ?_
  case side1 => exact HR0.out
  case side2 => exact HC0.out
  rintro x w1 ⟨rfl, hb⟩
  clear hcut
  go_wp2_with fail
  go_loop [9] (fun v => ∃ j : Int, 0 ≤ j ∧ j ≤ (cnt l e : Int) ∧ v = .int .i64 j) (fun v => cnt l e - (intOf v).toNat)
  case atStart => exact ⟨0, by omega, by omega, rfl⟩
  case round =>
    obtain ⟨j, hj0, hj, rfl⟩ := hrel
    have hcl := cnt_le l e
    by_cases hlt : j < (cnt l e : Int)
    · have hy := cnt_yes l e j.toNat (by omega)
      rw [show ((j.toNat : Nat) : Int) = j from by omega] at hy
      obtain ⟨ad, e1, hx0, hx1⟩ := at_T26 HR0.out j hj0 (by omega)
      cases e1
      replace hx0 := (hb.cell (World.block_lt_of_cell? w _ hx0)).trans hx0
      have b0 : decide (j < (l.length : Int)) = true := by simp; omega
      have b1 : decide ((rd_T26 l j).f0 ≤ e) = true := by simpa using hy
      have q0 : j < (l.length : Int) := by omega
      go_wp2_with fail
      go_round
      case rel => exact ⟨j + 1, by omega, by omega, rfl⟩
      case measure => simp [intOf]; omega
    · have hjn := Aside0.mk (show j = (cnt l e : Int) by omega)
      have hq := Aside0.mk (parts_facts l e en j hjn.out)
      have hjl : j ≤ (l.length : Int) := by omega
      clear hlt hj hcl
      by_cases hin : j < (l.length : Int)
      · obtain ⟨ad, e1, hx0, hx1⟩ := at_T26 HR0.out j hj0 hin
        cases e1
        replace hx0 := (hb.cell (World.block_lt_of_cell? w _ hx0)).trans hx0
        replace hx1 := (hb.cell (World.block_lt_of_cell? w _ hx1)).trans hx1
        have b0 : decide (j < (l.length : Int)) = true := decide_eq_true hin
        have b1 : decide ((rd_T26 l j).f0 ≤ e) = false := decide_eq_false (hq.out.1 hin)
        by_cases hz : 0 < j
        · obtain ⟨ad2, e2, hy0, hy1⟩ := at_T26 HR0.out (j - 1) (by omega) (by omega)
          obtain rfl : ad = ad2 := by injection e2
          clear e2
          rw [show (j - 1).toNat = j.toNat - 1 from by omega] at hy0
          replace hy0 := (hb.cell (World.block_lt_of_cell? w _ hy0)).trans hy0
          have z0 : decide (0 < j) = true := decide_eq_true hz
          have q1 : (0 : Int) ≤ j - 1 := by omega
          have q2 : j - 1 < (l.length : Int) := by omega
          go_wp2_with fail
          all_goals first
            | (refine (gharrylaw15_awake.calls 6 true _ hA.out).mono ?_; rintro x w2 ⟨rfl, hb2⟩; go_wp2_with fail; go_ret; exact ⟨rfl, hb.trans (hb2.mono hb.size)⟩)
            | (exfalso; have m1 := HR1.out; have m2 := HR2.out; rw [(hq.out.2.2 hz).1] at m1; rw [(hq.out.2.2 hz).2.1 hin] at m2; unfold mn at m2; split at m2 <;> omega)
        · have z0 : decide (0 < j) = false := decide_eq_false hz
          go_wp2_with fail
          all_goals first
            | (refine (gharrylaw15_awake.calls 6 true _ hA.out).mono ?_; rintro x w2 ⟨rfl, hb2⟩; go_wp2_with fail; go_ret; exact ⟨rfl, hb.trans (hb2.mono hb.size)⟩)
            | (exfalso; have m1 := HR1.out; have m2 := HR2.out; rw [(hq.out.2.1 hz).1] at m1; rw [(hq.out.2.1 hz).2] at m2; unfold mn at m2; split at m2 <;> omega)
      · have b0 : decide (j < (l.length : Int)) = false := decide_eq_false hin
        by_cases hz : 0 < j
        · obtain ⟨ad, e1, hy0, hy1⟩ := at_T26 HR0.out (j - 1) (by omega) (by omega)
          cases e1
          rw [show (j - 1).toNat = j.toNat - 1 from by omega] at hy0
          replace hy0 := (hb.cell (World.block_lt_of_cell? w _ hy0)).trans hy0
          have z0 : decide (0 < j) = true := decide_eq_true hz
          have q1 : (0 : Int) ≤ j - 1 := by omega
          have q2 : j - 1 < (l.length : Int) := by omega
          go_wp2_with fail
          all_goals first
            | (refine (gharrylaw15_awake.calls 6 true _ hA.out).mono ?_; rintro x w2 ⟨rfl, hb2⟩; go_wp2_with fail; go_ret; exact ⟨rfl, hb.trans (hb2.mono hb.size)⟩)
            | (exfalso; have m1 := HR1.out; have m2 := HR2.out; rw [(hq.out.2.2 hz).1] at m1; rw [(hq.out.2.2 hz).2.2 hin] at m2; unfold mn at m2; split at m2 <;> omega)
        · have z0 : decide (0 < j) = false := decide_eq_false hz
          go_wp2_with fail
          all_goals first
            | (refine (gharrylaw15_awake.calls 6 true _ hA.out).mono ?_; rintro x w2 ⟨rfl, hb2⟩; go_wp2_with fail; go_ret; exact ⟨rfl, hb.trans (hb2.mono hb.size)⟩)
            | (exfalso; have m1 := HR1.out; have m2 := HR2.out; rw [(hq.out.2.1 hz).1] at m1; rw [(hq.out.2.1 hz).2] at m2; unfold mn at m2; split at m2 <;> omega)

theorem parts_walk {W : World} (A0 : Option Addr) (c0 : Nat) (l : List S26) (hr0 : Kd.C k26 W A0 l.length l) (hc0 : l.length ≤ c0) (_ : l.length ≤ maxLen ∧ ∀ x ∈ l, (Lit.int .i64 x.f0).wf = true ∧ (Lit.int .i64 x.f1).wf = true)
    (e : Int) (_ : (Lit.int .i64 e).wf = true) (en : Int) (_ : (Lit.int .i64 en).wf = true) :
    Calls Try.prog 3 #[.slice A0 l.length c0, .int .i64 e, .int .i64 en] W fun x w' => x = .returned (.bool true) ∧ Below W.heap.size W w' := by
  by_cases h : l.length ≤ 100
  · exact parts_short A0 c0 l e en W hr0 hc0 h
  · exact parts_long A0 c0 l e en W hr0 hc0 (by omega)

end Go.Proofs.Ytflbkgpmepfhlaa.Parts
