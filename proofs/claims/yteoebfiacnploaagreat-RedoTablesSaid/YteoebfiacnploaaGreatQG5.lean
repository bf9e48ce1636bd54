/- Texts of this proof, put together: Fsumhalf, HookRd, HookRs. They prove no statement. -/
import Derived.Test.YteoebfiacnploaaGreatQFtypes
namespace Go.Proofs.YteoebfiacnploaaGreat.HRec
open Go.RowKit Go.Proofs.YteoebfiacnploaaGreat.HRec Go.Proofs.YteoebfiacnploaaGreatW.PrintWords Go.Proofs.YteoebfiacnploaaGreatW.PrintLast Go.Proofs.YteoebfiacnploaaGreatW.PrintMore
attribute [local go_sem] max2_int min2_int max_two min_two max_three min_three max_four min_four   -- for this text's walks alone
set_option linter.unusedVariables false
set_option linter.unusedSimpArgs false
attribute [local go_sem high] eqA36
/-! ### sum_half: function 112 -/
def sum_half.l0 : Nat → Int → Int → Option (Int)
  | 0, _, _ => none
  | k + 1, x0, x3 => if x3 < 4 then (if (Go.bits .and .u32 x0 1) = 1 then (sum_half.l0 k (Go.bits .xor .u32 (x0 / 2) 2197175160) (wrap64 (x3 + 1))) else (sum_half.l0 k (x0 / 2) (wrap64 (x3 + 1)))) else (some x0)
def sum_half.f (k : Nat) (a0 : Int) : Option (Int) := sum_half.l0 k a0 0
theorem sum_half.mono_l : ∀ k, (∀ y0 y1, LeO (sum_half.l0 k y0 y1) (sum_half.l0 (k + 1) y0 y1))
  | 0 => fun _ _ r h => by simp [sum_half.l0] at h
  | k + 1 => by
    have ih0 := sum_half.mono_l k
    · intro y0 y1
      unfold sum_half.l0
      repeat' first
      | (with_reducible exact ih0 _ _)
      | (with_reducible exact LeO.refl _)
      | (with_reducible exact LeO.none _)
      | (with_reducible refine LeO.ite ?_ ?_)
      | (with_reducible refine LeO.bind ?_ (fun _ => ?_))
      | exact ih0 _ _
      | exact LeO.none _
      | refine LeO.ite ?_ ?_
      | refine LeO.bind ?_ (fun _ => ?_)
theorem sum_half.mono : ∀ a0 k, LeO (sum_half.f k a0) (sum_half.f (k + 1) a0) := by
  intro a0 k
  have ih0 := sum_half.mono_l k
  unfold sum_half.f
  repeat' first
      | (with_reducible exact ih0 _ _)
      | (with_reducible exact LeO.refl _)
      | (with_reducible exact LeO.none _)
      | (with_reducible refine LeO.ite ?_ ?_)
      | (with_reducible refine LeO.bind ?_ (fun _ => ?_))
      | exact ih0 _ _
      | exact LeO.none _
      | refine LeO.ite ?_ ?_
      | refine LeO.bind ?_ (fun _ => ?_)
set_option maxHeartbeats 8000000 in
set_option maxRecDepth 100000 in
theorem sum_half.calls (k : Nat) (a0 : Int) (r : Int) (w : World) (h : sum_half.f k a0 = some r) :
    Calls Tryz.prog 112 #[.int .u32 a0] w fun e w' => e = .returned (.int .u32 r) ∧ Drawn0 w w' := by
  have H : (sum_half.l0 k a0 0) = some r := h
  clear h
  have H' := Aside0.mk H
  clear H
  go_enter Tryz.func112, Tryz.ntmps112
  go_wp2
  go_loopg [0, 3] k (fun kq v0 v3 w' => ∃ (x0_1 : Int) (x3_1 : Int), v0 = .int .u32 x0_1 ∧ v3 = .int .i64 x3_1 ∧ Aside0 (sum_half.l0 kq x0_1 x3_1 = some r) ∧ Aside0 (kq ≤ k) ∧ Drawn0 w w')
  case atStart => exact ⟨(a0), (0), (by first | rfl | (simp; done) | (simp [*]; done)), (by first | rfl | (simp; done) | (simp [*]; done)), H', ⟨Nat.le_refl _⟩, by repeat (first | exact Drawn0.refl _ | apply Drawn0.step)⟩
  case round =>
    clear H'
    (try clear c1)
    obtain ⟨x0_1, x3_1, rfl, rfl, HA, HK1, ⟨m1, rfl⟩⟩ := hrel
    cases gk with
    | zero => exact absurd HA.out (by simp [sum_half.l0])
    | succ k1 =>
      have H := HA.out; clear HA
      simp only [sum_half.l0] at H
      by_cases c2 : x3_1 < 4
      · rw [if_pos c2] at H
        have c2b0 : decide (x3_1 < 4) = true := decide_eq_true c2
        clear c2
        by_cases c3 : (Go.bits .and .u32 x0_1 1) = 1
        · rw [if_pos c3] at H
          have c3b0 : ((Go.bits .and .u32 x0_1 1) == 1) = true := beq_iff_eq.mpr c3
          have c3b1 : ((Go.bits .and .u32 x0_1 1) != 1) = false := bne_eq_false_iff_eq.mpr c3
          clear c3
          have H' := Aside0.mk H
          clear H
          go_wp2
          go_roundg k1
          case measure => have := HK1.out; omega
          case rel => exact ⟨(Go.bits .xor .u32 (x0_1 / 2) 2197175160), (wrap64 (x3_1 + 1)), (by first | rfl | (simp; done) | (simp [*]; done)), (by first | rfl | (simp; done) | (simp [*]; done)), H', ⟨by have := HK1.out; omega⟩, by repeat (first | exact Drawn0.refl _ | apply Drawn0.step)⟩
        · rw [if_neg c3] at H
          have c3b0 : ((Go.bits .and .u32 x0_1 1) == 1) = false := beq_eq_false_iff_ne.mpr c3
          have c3b1 : ((Go.bits .and .u32 x0_1 1) != 1) = true := bne_iff_ne.mpr c3
          have H' := Aside0.mk H
          clear H
          go_wp2
          go_roundg k1
          case measure => have := HK1.out; omega
          case rel => exact ⟨(x0_1 / 2), (wrap64 (x3_1 + 1)), (by first | rfl | (simp; done) | (simp [*]; done)), (by first | rfl | (simp; done) | (simp [*]; done)), H', ⟨by have := HK1.out; omega⟩, by repeat (first | exact Drawn0.refl _ | apply Drawn0.step)⟩
      · rw [if_neg c2] at H
        have c2b0 : decide (x3_1 < 4) = false := decide_eq_false c2
        clear c2
        obtain rfl := Option.some.inj H
        go_wp2
        go_ret
        exact ⟨by first | rfl | (simp; done) | (simp [*]; done), by repeat (first | exact Drawn0.refl _ | apply Drawn0.step)⟩

end Go.Proofs.YteoebfiacnploaaGreat.HRec
namespace Go.Proofs.YteoebfiacnploaaGreat.HRec
open Go.RowKit Go.Proofs.YteoebfiacnploaaGreatW.PrintWords Go.Proofs.YteoebfiacnploaaGreatW.PrintLast Go.Proofs.YteoebfiacnploaaGreatW.PrintMore
set_option linter.unusedVariables false
set_option linter.unusedSimpArgs false
def tabI (i : Nat) : Int := (sum_half.f 10 (i : Int)).getD 0
def cellsT (j : Nat) : Array Value := ((List.range 16).map fun i => Value.int .u32 (if i < j then tabI i else 0)).toArray
theorem half_tab : ∀ j : Fin 16, sum_half.f 10 ((j.val : Nat) : Int) = some (tabI j.val) := by decide +kernel
theorem cellsT_set : ∀ j : Fin 16, (cellsT j.val).setIfInBounds j.val (.int .u32 (tabI j.val)) = cellsT (j.val + 1) := by
  intro j
  unfold cellsT
  apply Array.toList_inj.1
  apply List.ext_getElem
  · simp
  · intro n h1 h2
    simp only [List.setIfInBounds_toArray, List.getElem_set, List.getElem_map, List.getElem_range]
    by_cases h : j.val = n
    · rw [if_pos h, if_pos (by omega), h]
    · rw [if_neg h]
      by_cases hn : n < j.val
      · rw [if_pos hn, if_pos (by omega)]
      · rw [if_neg hn, if_neg (by omega)]
theorem cellsT_get (j i : Nat) (hi : i < 16) : (cellsT j)[i]? = some (.int .u32 (if i < j then tabI i else 0)) := by
  unfold cellsT
  rw [List.getElem?_toArray, List.getElem?_map, List.getElem?_range hi]
  rfl
set_option maxHeartbeats 4000000 in
set_option maxRecDepth 100000 in
theorem sum_table.calls (w : World) :
    Calls Tryz.prog 105 #[] w fun e w' => e = .returned (.agg (cellsT 16)) ∧ Below w.heap.size w w' := by
  have hu158 := Tryz.underlying158
  go_enter Tryz.func105, Tryz.ntmps105
  go_wp2_with fail
  go_loopw [3] (fun v wr => ∃ j : Nat, j ≤ 16 ∧ v = .int .i64 (j : Int) ∧ Aside0 (wr.heap[w.heap.size + 1]? = some (.cells (cellsT j) 158 (0, 0))) ∧ Aside0 (wr.heap[w.heap.size]? = some (.cells (cellsT 0) 158 (0, 0))) ∧ Aside0 (Below w.heap.size w wr)) (fun v _ => 16 - (intOf v).toNat)
  case atStart =>
    refine ⟨0, by omega, rfl, ⟨?_⟩, ⟨?_⟩, ⟨below_alloc (below_alloc (Below.refl _ _) _) _⟩⟩
    · have := blk_new (w.alloc (.cells (cellsT 0) 158)) (.cells (cellsT 0) 158)
      rw [show (w.alloc (.cells (cellsT 0) 158)).heap.size = w.heap.size + 1 from by simp] at this
      exact this
    · exact blk_alloc (blk_new w _) _
  case round =>
    obtain ⟨j, hj, rfl, H1, H0, HB⟩ := hrel
    by_cases hlt : (j : Int) < 16
    · have b0 : decide ((j : Int) < 16) = true := decide_eq_true hlt
      have hw1 : IntKind.u32.wrap (j : Int) = j := by rw [show IntKind.u32.wrap (j : Int) = (j : Int) % 4294967296 from by kernel_rfl]; omega
      go_wp2_with fail
      refine (sum_half.calls 10 (j : Int) (tabI j) _ (half_tab ⟨j, by omega⟩)).mono ?_
      rintro e w2 ⟨rfl, ⟨nd, rfl⟩⟩
      have f1 : (wr.drewN nd).frozen? ⟨w.heap.size + 1, j, none⟩ = false := blk_frozen H1.out j
      have c1 : (wr.drewN nd).cell? ⟨w.heap.size + 1, j, none⟩ = some (.int .u32 (if j < j then tabI j else 0)) := (blk_cell H1.out j).trans (cellsT_get j j (by omega))
      have hw : wrap64 ((j : Int) + 1) = ((j + 1 : Nat) : Int) := by unfold wrap64; omega
      go_wp2_with fail
      go_roundw
      case rel =>
        refine ⟨j + 1, by omega, by first | rfl | rw [hw], ⟨?_⟩, ⟨?_⟩, ⟨below_set (pw_below_drewN HB.out nd) (by omega)⟩⟩
        · have := blk_set (w := wr.drewN nd) H1.out j (.int .u32 (tabI j))
          rw [cellsT_set ⟨j, by omega⟩] at this
          exact this
        · exact blk_far (w := wr.drewN nd) H0.out (by simp) _
      case measure => simp [intOf]; omega
    · have hje : j = 16 := by omega
      subst hje
      have c0 : wr.cell? ⟨w.heap.size + 1, 0, none⟩ = some (.int .u32 (tabI 0)) := (blk_cell H1.out 0).trans rfl
      have c1 : wr.cell? ⟨w.heap.size + 1, 1, none⟩ = some (.int .u32 (tabI 1)) := (blk_cell H1.out 1).trans rfl
      have c2 : wr.cell? ⟨w.heap.size + 1, 2, none⟩ = some (.int .u32 (tabI 2)) := (blk_cell H1.out 2).trans rfl
      have c3 : wr.cell? ⟨w.heap.size + 1, 3, none⟩ = some (.int .u32 (tabI 3)) := (blk_cell H1.out 3).trans rfl
      have c4 : wr.cell? ⟨w.heap.size + 1, 4, none⟩ = some (.int .u32 (tabI 4)) := (blk_cell H1.out 4).trans rfl
      have c5 : wr.cell? ⟨w.heap.size + 1, 5, none⟩ = some (.int .u32 (tabI 5)) := (blk_cell H1.out 5).trans rfl
      have c6 : wr.cell? ⟨w.heap.size + 1, 6, none⟩ = some (.int .u32 (tabI 6)) := (blk_cell H1.out 6).trans rfl
      have c7 : wr.cell? ⟨w.heap.size + 1, 7, none⟩ = some (.int .u32 (tabI 7)) := (blk_cell H1.out 7).trans rfl
      have c8 : wr.cell? ⟨w.heap.size + 1, 8, none⟩ = some (.int .u32 (tabI 8)) := (blk_cell H1.out 8).trans rfl
      have c9 : wr.cell? ⟨w.heap.size + 1, 9, none⟩ = some (.int .u32 (tabI 9)) := (blk_cell H1.out 9).trans rfl
      have c10 : wr.cell? ⟨w.heap.size + 1, 10, none⟩ = some (.int .u32 (tabI 10)) := (blk_cell H1.out 10).trans rfl
      have c11 : wr.cell? ⟨w.heap.size + 1, 11, none⟩ = some (.int .u32 (tabI 11)) := (blk_cell H1.out 11).trans rfl
      have c12 : wr.cell? ⟨w.heap.size + 1, 12, none⟩ = some (.int .u32 (tabI 12)) := (blk_cell H1.out 12).trans rfl
      have c13 : wr.cell? ⟨w.heap.size + 1, 13, none⟩ = some (.int .u32 (tabI 13)) := (blk_cell H1.out 13).trans rfl
      have c14 : wr.cell? ⟨w.heap.size + 1, 14, none⟩ = some (.int .u32 (tabI 14)) := (blk_cell H1.out 14).trans rfl
      have c15 : wr.cell? ⟨w.heap.size + 1, 15, none⟩ = some (.int .u32 (tabI 15)) := (blk_cell H1.out 15).trans rfl
      have b0 : decide (((16 : Nat) : Int) < 16) = false := by decide
      have e0 : wr.cell? ⟨w.heap.size, 0, none⟩ = some (.int .u32 0) := (blk_cell H0.out 0).trans rfl
      have e1 : wr.cell? ⟨w.heap.size, 1, none⟩ = some (.int .u32 0) := (blk_cell H0.out 1).trans rfl
      have e2 : wr.cell? ⟨w.heap.size, 2, none⟩ = some (.int .u32 0) := (blk_cell H0.out 2).trans rfl
      have e3 : wr.cell? ⟨w.heap.size, 3, none⟩ = some (.int .u32 0) := (blk_cell H0.out 3).trans rfl
      have e4 : wr.cell? ⟨w.heap.size, 4, none⟩ = some (.int .u32 0) := (blk_cell H0.out 4).trans rfl
      have e5 : wr.cell? ⟨w.heap.size, 5, none⟩ = some (.int .u32 0) := (blk_cell H0.out 5).trans rfl
      have e6 : wr.cell? ⟨w.heap.size, 6, none⟩ = some (.int .u32 0) := (blk_cell H0.out 6).trans rfl
      have e7 : wr.cell? ⟨w.heap.size, 7, none⟩ = some (.int .u32 0) := (blk_cell H0.out 7).trans rfl
      have e8 : wr.cell? ⟨w.heap.size, 8, none⟩ = some (.int .u32 0) := (blk_cell H0.out 8).trans rfl
      have e9 : wr.cell? ⟨w.heap.size, 9, none⟩ = some (.int .u32 0) := (blk_cell H0.out 9).trans rfl
      have e10 : wr.cell? ⟨w.heap.size, 10, none⟩ = some (.int .u32 0) := (blk_cell H0.out 10).trans rfl
      have e11 : wr.cell? ⟨w.heap.size, 11, none⟩ = some (.int .u32 0) := (blk_cell H0.out 11).trans rfl
      have e12 : wr.cell? ⟨w.heap.size, 12, none⟩ = some (.int .u32 0) := (blk_cell H0.out 12).trans rfl
      have e13 : wr.cell? ⟨w.heap.size, 13, none⟩ = some (.int .u32 0) := (blk_cell H0.out 13).trans rfl
      have e14 : wr.cell? ⟨w.heap.size, 14, none⟩ = some (.int .u32 0) := (blk_cell H0.out 14).trans rfl
      have e15 : wr.cell? ⟨w.heap.size, 15, none⟩ = some (.int .u32 0) := (blk_cell H0.out 15).trans rfl
      have f0 := blk_frozen H0.out 0; have f1 := blk_frozen H0.out 1; have f2 := blk_frozen H0.out 2; have f3 := blk_frozen H0.out 3; have f4 := blk_frozen H0.out 4; have f5 := blk_frozen H0.out 5; have f6 := blk_frozen H0.out 6; have f7 := blk_frozen H0.out 7; have f8 := blk_frozen H0.out 8; have f9 := blk_frozen H0.out 9; have f10 := blk_frozen H0.out 10; have f11 := blk_frozen H0.out 11; have f12 := blk_frozen H0.out 12; have f13 := blk_frozen H0.out 13; have f14 := blk_frozen H0.out 14; have f15 := blk_frozen H0.out 15
      go_wp2_with fail
      have z0 := blk_set H0.out 0 (.int .u32 (tabI 0)); have z1 := blk_set z0 1 (.int .u32 (tabI 1)); have z2 := blk_set z1 2 (.int .u32 (tabI 2)); have z3 := blk_set z2 3 (.int .u32 (tabI 3)); have z4 := blk_set z3 4 (.int .u32 (tabI 4)); have z5 := blk_set z4 5 (.int .u32 (tabI 5)); have z6 := blk_set z5 6 (.int .u32 (tabI 6)); have z7 := blk_set z6 7 (.int .u32 (tabI 7)); have z8 := blk_set z7 8 (.int .u32 (tabI 8)); have z9 := blk_set z8 9 (.int .u32 (tabI 9)); have z10 := blk_set z9 10 (.int .u32 (tabI 10)); have z11 := blk_set z10 11 (.int .u32 (tabI 11)); have z12 := blk_set z11 12 (.int .u32 (tabI 12)); have z13 := blk_set z12 13 (.int .u32 (tabI 13)); have z14 := blk_set z13 14 (.int .u32 (tabI 14)); have z15 := blk_set z14 15 (.int .u32 (tabI 15))
      rw [show ((((((((((((((((cellsT 0).setIfInBounds 0 (.int .u32 (tabI 0))).setIfInBounds 1 (.int .u32 (tabI 1))).setIfInBounds 2 (.int .u32 (tabI 2))).setIfInBounds 3 (.int .u32 (tabI 3))).setIfInBounds 4 (.int .u32 (tabI 4))).setIfInBounds 5 (.int .u32 (tabI 5))).setIfInBounds 6 (.int .u32 (tabI 6))).setIfInBounds 7 (.int .u32 (tabI 7))).setIfInBounds 8 (.int .u32 (tabI 8))).setIfInBounds 9 (.int .u32 (tabI 9))).setIfInBounds 10 (.int .u32 (tabI 10))).setIfInBounds 11 (.int .u32 (tabI 11))).setIfInBounds 12 (.int .u32 (tabI 12))).setIfInBounds 13 (.int .u32 (tabI 13))).setIfInBounds 14 (.int .u32 (tabI 14))).setIfInBounds 15 (.int .u32 (tabI 15)) = cellsT 16 from rfl] at z15
      (try simp only [Exit.inBlock, Exit.then])
      refine bodyPost_ret (results_single rfl (.cell w.heap.size 158 (cellsT 16) (0, 0) _ rfl z15 hu158 rfl rfl .nil)) rfl ?_
      exact ⟨rfl, (below_set (below_set (below_set (below_set (below_set (below_set (below_set (below_set (below_set (below_set (below_set (below_set (below_set (below_set (below_set (below_set HB.out (Nat.le_refl _)) (Nat.le_refl _)) (Nat.le_refl _)) (Nat.le_refl _)) (Nat.le_refl _)) (Nat.le_refl _)) (Nat.le_refl _)) (Nat.le_refl _)) (Nat.le_refl _)) (Nat.le_refl _)) (Nat.le_refl _)) (Nat.le_refl _)) (Nat.le_refl _)) (Nat.le_refl _)) (Nat.le_refl _)) (Nat.le_refl _))⟩
end Go.Proofs.YteoebfiacnploaaGreat.HRec
namespace Go.Proofs.YteoebfiacnploaaGreat.HRec
open Go.RowKit Go.Proofs.YteoebfiacnploaaGreatW.PrintWords Go.Proofs.YteoebfiacnploaaGreatW.PrintLast Go.Proofs.YteoebfiacnploaaGreatW.PrintMore
set_option linter.unusedVariables false
set_option linter.unusedSimpArgs false
def sumHalf (c : Int) : Int := Go.bits .xor .u32 (c / 16) (tabI (Go.bits .and .u32 c 15).toNat)
def sumStep (c b : Int) : Int := sumHalf (sumHalf (Go.bits .xor .u32 c b))
def sumRun (c : Int) (s : ByteArray) (n : Nat) : Int := (s.data.toList.take n).foldl (fun c b => sumStep c (b.toNat : Int)) c
theorem and_range (c : Int) : 0 ≤ Go.bits .and .u32 c 15 ∧ (Go.bits .and .u32 c 15).toNat < 16 := by
  have key : (BitVec.ofInt 32 c &&& BitVec.ofInt 32 15).toNat < 16 := by
    have : (BitVec.ofInt 32 c &&& BitVec.ofInt 32 15).toNat ≤ (BitVec.ofInt 32 15).toNat := by
      rw [BitVec.toNat_and]; exact Nat.and_le_right
    have h15 : (BitVec.ofInt 32 15).toNat = 15 := by decide
    omega
  have e : Go.bits .and .u32 c 15 = IntKind.u32.wrap ((BitVec.ofInt 32 c &&& BitVec.ofInt 32 15).toNat : Int) := rfl
  rw [e, IntKind.wrap_u32]
  omega
theorem cells16 : cellsT 16 = #[.int .u32 (tabI 0), .int .u32 (tabI 1), .int .u32 (tabI 2), .int .u32 (tabI 3), .int .u32 (tabI 4), .int .u32 (tabI 5), .int .u32 (tabI 6), .int .u32 (tabI 7), .int .u32 (tabI 8), .int .u32 (tabI 9), .int .u32 (tabI 10), .int .u32 (tabI 11), .int .u32 (tabI 12), .int .u32 (tabI 13), .int .u32 (tabI 14), .int .u32 (tabI 15)] := rfl
set_option maxHeartbeats 4000000 in
set_option maxRecDepth 100000 in
theorem sum_run.calls (c : Int) (s : ByteArray) (w : World) (hz : s.size ≤ 100000000) :
    Calls Tryz.prog 92 #[.int .u32 c, .string s] w fun e w' => e = .returned (.int .u32 (sumRun c s s.size)) ∧ Below w.heap.size w w' := by
  have hu158 := Tryz.underlying158
  go_enter Tryz.func92, Tryz.ntmps92
  go_wp2_with fail
  refine (sum_table.calls _).mono ?_
  rintro e w1 ⟨rfl, hb⟩
  rw [cells16]
  have HB := Aside0.mk hb; clear hb
  go_wp2_with fail
  obtain ⟨g, hg⟩ : ∃ g, g = w1.heap.size := ⟨_, rfl⟩
  have H1 := Aside0.mk (blk_new w1 (.cells (cellsT 16) 158)); have HB1 := Aside0.mk (below_alloc HB.out (.cells (cellsT 16) 158))
  have HG := Aside0.mk (show w.heap.size ≤ g by rw [hg]; exact HB.out.size)
  rw [← cells16]
  rw [← hg] at H1
  rw [← hg]
  clear hg HB
  generalize w1.alloc (.cells (cellsT 16) 158) = w2 at *
  go_loopw [0, 10] (fun v u wr => ∃ j : Nat, j ≤ s.size ∧ v = .int .u32 (sumRun c s j) ∧ u = .int .i64 (j : Int) ∧ Aside0 (wr.heap[g]? = some (.cells (cellsT 16) 158 (0, 0))) ∧ Aside0 (Below w.heap.size w wr)) (fun v u _ => s.size - (intOf u).toNat)
  case atStart => exact ⟨0, by omega, by simp [sumRun], rfl, H1, HB1⟩
  case round =>
    obtain ⟨j, hj, rfl, rfl, H2, HB2⟩ := hrel
    by_cases hlt : (j : Int) < (s.size : Int)
    · have b0 : decide ((j : Int) < (s.size : Int)) = true := decide_eq_true hlt
      generalize hc : sumRun c s j = d at *
      have hs : sumRun c s (j + 1) = sumStep d (s[j].toNat : Int) := by
        rw [← hc]
        unfold sumRun
        have hk : j < s.data.toList.length := by have : s.data.toList.length = s.size := by cases s; simp [ByteArray.size]
                                                 omega
        rw [List.take_succ_eq_append_getElem hk, List.foldl_append]
        rfl
      have hm : (s[j].toNat : Int) % 4294967296 = (s[j].toNat : Int) := by have := s[j].toNat_lt; omega
      have hw : wrap64 ((j : Int) + 1) = ((j + 1 : Nat) : Int) := by unfold wrap64; omega
      unfold sumStep sumHalf at hs
      rw [← hm] at hs
      have x1 := and_range (Go.bits .xor .u32 d ((s[j].toNat : Int) % 4294967296))
      have k1 := (blk_cell H2.out (Go.bits .and .u32 (Go.bits .xor .u32 d ((s[j].toNat : Int) % 4294967296)) 15).toNat).trans (cellsT_get 16 _ x1.2)
      rw [if_pos x1.2] at k1
      have x2 := and_range (Go.bits .xor .u32 (Go.bits .xor .u32 d ((s[j].toNat : Int) % 4294967296) / 16) (tabI (Go.bits .and .u32 (Go.bits .xor .u32 d ((s[j].toNat : Int) % 4294967296)) 15).toNat))
      have k2 := (blk_cell H2.out (Go.bits .and .u32 (Go.bits .xor .u32 (Go.bits .xor .u32 d ((s[j].toNat : Int) % 4294967296) / 16) (tabI (Go.bits .and .u32 (Go.bits .xor .u32 d ((s[j].toNat : Int) % 4294967296)) 15).toNat)) 15).toNat).trans (cellsT_get 16 _ x2.2)
      rw [if_pos x2.2] at k2
      have HS := Aside0.mk hs; clear hs hm
      go_wp2_with fail
      go_roundw
      case rel => exact ⟨j + 1, by omega, by rw [HS.out], by first | rw [hw] | simp, H2, HB2⟩
      case measure => simp [intOf]; omega
    · have b0 : decide ((j : Int) < (s.size : Int)) = false := decide_eq_false hlt
      obtain rfl : j = s.size := by omega
      go_wp2_with fail
      go_ret
      exact ⟨by simp, HB2.out⟩
theorem xor_range (a b : Int) : 0 ≤ Go.bits .xor .u32 a b ∧ Go.bits .xor .u32 a b < 4294967296 := by
  have e : Go.bits .xor .u32 a b = IntKind.u32.wrap ((BitVec.ofInt 32 a ^^^ BitVec.ofInt 32 b).toNat : Int) := rfl
  rw [e, IntKind.wrap_u32]
  omega
def sum_Sum.f (s : ByteArray) : Option Int := if s.size ≤ 100000000 then some (Go.bits .xor .u32 (sumRun 4294967295 s s.size) 4294967295) else none
set_option maxHeartbeats 4000000 in
set_option maxRecDepth 100000 in
theorem sum_Sum.calls (a0 : ByteArray) (r : Int) (w : World) (h : sum_Sum.f a0 = some r) :
    Calls Tryz.prog 65 #[.string a0] w fun e w' => e = .returned (.int .i64 r) ∧ Below w.heap.size w w' := by
  unfold sum_Sum.f at h
  split at h
  rotate_left
  · cases h
  rename_i hz
  obtain rfl := Option.some.inj h
  have hr := xor_range (sumRun 4294967295 a0 a0.size) 4294967295
  have hw : wrap64 (Go.bits .xor .u32 (sumRun 4294967295 a0 a0.size) 4294967295) = Go.bits .xor .u32 (sumRun 4294967295 a0 a0.size) 4294967295 := by unfold wrap64; omega
  clear h
  go_enter Tryz.func65, Tryz.ntmps65
  go_wp2_with fail
  refine (sum_run.calls 4294967295 a0 _ hz).mono ?_
  rintro e w1 ⟨rfl, hb⟩
  have HB := Aside0.mk hb; clear hb
  go_wp2_with fail
  go_ret
  exact ⟨by simp [hw], HB.out⟩
end Go.Proofs.YteoebfiacnploaaGreat.HRec
