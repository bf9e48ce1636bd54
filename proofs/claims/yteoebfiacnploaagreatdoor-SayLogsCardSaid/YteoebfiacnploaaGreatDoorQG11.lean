/- Texts of this proof, put together: HookRd, HookRs, FsumOpen. They prove no statement. -/
import Derived.Test.YteoebfiacnploaaGreatDoorQFtypes
import Derived.Test.YteoebfiacnploaaGreatDoorQG10
import Derived.Test.YteoebfiacnploaaGreatDoorQG9
import Derived.Test.YteoebfiacnploaaGreatDoorQHookRb
namespace Go.Proofs.YteoebfiacnploaaGreatDoor.HRec
open Go.RowKit Go.Proofs.YteoebfiacnploaaGreatDoorW.PrintWords Go.Proofs.YteoebfiacnploaaGreatDoorW.PrintLast Go.Proofs.YteoebfiacnploaaGreatDoorW.PrintMore
set_option linter.unusedVariables false
set_option linter.unusedSimpArgs false
def tabI (i : Nat) : Int := (sum_half.f 10 (i : Int)).getD 0
def cellsT (j : Nat) : Array Value := ((List.range 16).map fun i => Value.int .u32 (if i < j then tabI i else 0)).toArray
theorem half_tab : ∀ j : Fin 16, sum_half.f 10 ((j.val : Nat) : Int) = some (tabI j.val) := by decide +kernel
theorem cellsT_set : ∀ j : Fin 16, (cellsT j.val).setIfInBounds j.val (.int .u32 (tabI j.val)) = cellsT (j.val + 1) := by
  intro j
  unfold cellsT
  apply Array.toList_inj.1
  apply List.ext_getElem
  · simp
  · intro n h1 h2
    simp only [List.setIfInBounds_toArray, List.getElem_set, List.getElem_map, List.getElem_range]
    by_cases h : j.val = n
    · rw [if_pos h, if_pos (by omega), h]
    · rw [if_neg h]
      by_cases hn : n < j.val
      · rw [if_pos hn, if_pos (by omega)]
      · rw [if_neg hn, if_neg (by omega)]
theorem cellsT_get (j i : Nat) (hi : i < 16) : (cellsT j)[i]? = some (.int .u32 (if i < j then tabI i else 0)) := by
  unfold cellsT
  rw [List.getElem?_toArray, List.getElem?_map, List.getElem?_range hi]
  rfl
set_option maxHeartbeats 4000000 in
set_option maxRecDepth 100000 in
theorem sum_table.calls (w : World) :
    Calls Tryz.prog 116 #[] w fun e w' => e = .returned (.agg (cellsT 16)) ∧ Below w.heap.size w w' := by
  have hu158 := Tryz.underlying148
  go_enter Tryz.func116, Tryz.ntmps116
  go_wp2_with fail
  go_loopw [3] (fun v wr => ∃ j : Nat, j ≤ 16 ∧ v = .int .i64 (j : Int) ∧ Aside0 (wr.heap[w.heap.size + 1]? = some (.cells (cellsT j) 148 (0, 0))) ∧ Aside0 (wr.heap[w.heap.size]? = some (.cells (cellsT 0) 148 (0, 0))) ∧ Aside0 (Below w.heap.size w wr)) (fun v _ => 16 - (intOf v).toNat)
  case atStart =>
    refine ⟨0, by omega, rfl, ⟨?_⟩, ⟨?_⟩, ⟨below_alloc (below_alloc (Below.refl _ _) _) _⟩⟩
    · have := blk_new (w.alloc (.cells (cellsT 0) 148)) (.cells (cellsT 0) 148)
      rw [show (w.alloc (.cells (cellsT 0) 148)).heap.size = w.heap.size + 1 from by simp] at this
      exact this
    · exact blk_alloc (blk_new w _) _
  case round =>
    obtain ⟨j, hj, rfl, H1, H0, HB⟩ := hrel
    by_cases hlt : (j : Int) < 16
    · have b0 : decide ((j : Int) < 16) = true := decide_eq_true hlt
      have hw1 : IntKind.u32.wrap (j : Int) = j := by rw [show IntKind.u32.wrap (j : Int) = (j : Int) % 4294967296 from by kernel_rfl]; omega
      go_wp2_with fail
      refine (sum_half.calls 10 (j : Int) (tabI j) _ (half_tab ⟨j, by omega⟩)).mono ?_
      rintro e w2 ⟨rfl, ⟨nd, rfl⟩⟩
      have f1 : (wr.drewN nd).frozen? ⟨w.heap.size + 1, j, none⟩ = false := blk_frozen H1.out j
      have c1 : (wr.drewN nd).cell? ⟨w.heap.size + 1, j, none⟩ = some (.int .u32 (if j < j then tabI j else 0)) := (blk_cell H1.out j).trans (cellsT_get j j (by omega))
      have hw : wrap64 ((j : Int) + 1) = ((j + 1 : Nat) : Int) := by unfold wrap64; omega
      go_wp2_with fail
      go_roundw
      case rel =>
        refine ⟨j + 1, by omega, by first | rfl | rw [hw], ⟨?_⟩, ⟨?_⟩, ⟨below_set (pw_below_drewN HB.out nd) (by omega)⟩⟩
        · have := blk_set (w := wr.drewN nd) H1.out j (.int .u32 (tabI j))
          rw [cellsT_set ⟨j, by omega⟩] at this
          exact this
        · exact blk_far (w := wr.drewN nd) H0.out (by simp) _
      case measure => simp [intOf]; omega
    · have hje : j = 16 := by omega
      subst hje
      have c0 : wr.cell? ⟨w.heap.size + 1, 0, none⟩ = some (.int .u32 (tabI 0)) := (blk_cell H1.out 0).trans rfl
      have c1 : wr.cell? ⟨w.heap.size + 1, 1, none⟩ = some (.int .u32 (tabI 1)) := (blk_cell H1.out 1).trans rfl
      have c2 : wr.cell? ⟨w.heap.size + 1, 2, none⟩ = some (.int .u32 (tabI 2)) := (blk_cell H1.out 2).trans rfl
      have c3 : wr.cell? ⟨w.heap.size + 1, 3, none⟩ = some (.int .u32 (tabI 3)) := (blk_cell H1.out 3).trans rfl
      have c4 : wr.cell? ⟨w.heap.size + 1, 4, none⟩ = some (.int .u32 (tabI 4)) := (blk_cell H1.out 4).trans rfl
      have c5 : wr.cell? ⟨w.heap.size + 1, 5, none⟩ = some (.int .u32 (tabI 5)) := (blk_cell H1.out 5).trans rfl
      have c6 : wr.cell? ⟨w.heap.size + 1, 6, none⟩ = some (.int .u32 (tabI 6)) := (blk_cell H1.out 6).trans rfl
      have c7 : wr.cell? ⟨w.heap.size + 1, 7, none⟩ = some (.int .u32 (tabI 7)) := (blk_cell H1.out 7).trans rfl
      have c8 : wr.cell? ⟨w.heap.size + 1, 8, none⟩ = some (.int .u32 (tabI 8)) := (blk_cell H1.out 8).trans rfl
      have c9 : wr.cell? ⟨w.heap.size + 1, 9, none⟩ = some (.int .u32 (tabI 9)) := (blk_cell H1.out 9).trans rfl
      have c10 : wr.cell? ⟨w.heap.size + 1, 10, none⟩ = some (.int .u32 (tabI 10)) := (blk_cell H1.out 10).trans rfl
      have c11 : wr.cell? ⟨w.heap.size + 1, 11, none⟩ = some (.int .u32 (tabI 11)) := (blk_cell H1.out 11).trans rfl
      have c12 : wr.cell? ⟨w.heap.size + 1, 12, none⟩ = some (.int .u32 (tabI 12)) := (blk_cell H1.out 12).trans rfl
      have c13 : wr.cell? ⟨w.heap.size + 1, 13, none⟩ = some (.int .u32 (tabI 13)) := (blk_cell H1.out 13).trans rfl
      have c14 : wr.cell? ⟨w.heap.size + 1, 14, none⟩ = some (.int .u32 (tabI 14)) := (blk_cell H1.out 14).trans rfl
      have c15 : wr.cell? ⟨w.heap.size + 1, 15, none⟩ = some (.int .u32 (tabI 15)) := (blk_cell H1.out 15).trans rfl
      have b0 : decide (((16 : Nat) : Int) < 16) = false := by decide
      have e0 : wr.cell? ⟨w.heap.size, 0, none⟩ = some (.int .u32 0) := (blk_cell H0.out 0).trans rfl
      have e1 : wr.cell? ⟨w.heap.size, 1, none⟩ = some (.int .u32 0) := (blk_cell H0.out 1).trans rfl
      have e2 : wr.cell? ⟨w.heap.size, 2, none⟩ = some (.int .u32 0) := (blk_cell H0.out 2).trans rfl
      have e3 : wr.cell? ⟨w.heap.size, 3, none⟩ = some (.int .u32 0) := (blk_cell H0.out 3).trans rfl
      have e4 : wr.cell? ⟨w.heap.size, 4, none⟩ = some (.int .u32 0) := (blk_cell H0.out 4).trans rfl
      have e5 : wr.cell? ⟨w.heap.size, 5, none⟩ = some (.int .u32 0) := (blk_cell H0.out 5).trans rfl
      have e6 : wr.cell? ⟨w.heap.size, 6, none⟩ = some (.int .u32 0) := (blk_cell H0.out 6).trans rfl
      have e7 : wr.cell? ⟨w.heap.size, 7, none⟩ = some (.int .u32 0) := (blk_cell H0.out 7).trans rfl
      have e8 : wr.cell? ⟨w.heap.size, 8, none⟩ = some (.int .u32 0) := (blk_cell H0.out 8).trans rfl
      have e9 : wr.cell? ⟨w.heap.size, 9, none⟩ = some (.int .u32 0) := (blk_cell H0.out 9).trans rfl
      have e10 : wr.cell? ⟨w.heap.size, 10, none⟩ = some (.int .u32 0) := (blk_cell H0.out 10).trans rfl
      have e11 : wr.cell? ⟨w.heap.size, 11, none⟩ = some (.int .u32 0) := (blk_cell H0.out 11).trans rfl
      have e12 : wr.cell? ⟨w.heap.size, 12, none⟩ = some (.int .u32 0) := (blk_cell H0.out 12).trans rfl
      have e13 : wr.cell? ⟨w.heap.size, 13, none⟩ = some (.int .u32 0) := (blk_cell H0.out 13).trans rfl
      have e14 : wr.cell? ⟨w.heap.size, 14, none⟩ = some (.int .u32 0) := (blk_cell H0.out 14).trans rfl
      have e15 : wr.cell? ⟨w.heap.size, 15, none⟩ = some (.int .u32 0) := (blk_cell H0.out 15).trans rfl
      have f0 := blk_frozen H0.out 0; have f1 := blk_frozen H0.out 1; have f2 := blk_frozen H0.out 2; have f3 := blk_frozen H0.out 3; have f4 := blk_frozen H0.out 4; have f5 := blk_frozen H0.out 5; have f6 := blk_frozen H0.out 6; have f7 := blk_frozen H0.out 7; have f8 := blk_frozen H0.out 8; have f9 := blk_frozen H0.out 9; have f10 := blk_frozen H0.out 10; have f11 := blk_frozen H0.out 11; have f12 := blk_frozen H0.out 12; have f13 := blk_frozen H0.out 13; have f14 := blk_frozen H0.out 14; have f15 := blk_frozen H0.out 15
      go_wp2_with fail
      have z0 := blk_set H0.out 0 (.int .u32 (tabI 0)); have z1 := blk_set z0 1 (.int .u32 (tabI 1)); have z2 := blk_set z1 2 (.int .u32 (tabI 2)); have z3 := blk_set z2 3 (.int .u32 (tabI 3)); have z4 := blk_set z3 4 (.int .u32 (tabI 4)); have z5 := blk_set z4 5 (.int .u32 (tabI 5)); have z6 := blk_set z5 6 (.int .u32 (tabI 6)); have z7 := blk_set z6 7 (.int .u32 (tabI 7)); have z8 := blk_set z7 8 (.int .u32 (tabI 8)); have z9 := blk_set z8 9 (.int .u32 (tabI 9)); have z10 := blk_set z9 10 (.int .u32 (tabI 10)); have z11 := blk_set z10 11 (.int .u32 (tabI 11)); have z12 := blk_set z11 12 (.int .u32 (tabI 12)); have z13 := blk_set z12 13 (.int .u32 (tabI 13)); have z14 := blk_set z13 14 (.int .u32 (tabI 14)); have z15 := blk_set z14 15 (.int .u32 (tabI 15))
      rw [show ((((((((((((((((cellsT 0).setIfInBounds 0 (.int .u32 (tabI 0))).setIfInBounds 1 (.int .u32 (tabI 1))).setIfInBounds 2 (.int .u32 (tabI 2))).setIfInBounds 3 (.int .u32 (tabI 3))).setIfInBounds 4 (.int .u32 (tabI 4))).setIfInBounds 5 (.int .u32 (tabI 5))).setIfInBounds 6 (.int .u32 (tabI 6))).setIfInBounds 7 (.int .u32 (tabI 7))).setIfInBounds 8 (.int .u32 (tabI 8))).setIfInBounds 9 (.int .u32 (tabI 9))).setIfInBounds 10 (.int .u32 (tabI 10))).setIfInBounds 11 (.int .u32 (tabI 11))).setIfInBounds 12 (.int .u32 (tabI 12))).setIfInBounds 13 (.int .u32 (tabI 13))).setIfInBounds 14 (.int .u32 (tabI 14))).setIfInBounds 15 (.int .u32 (tabI 15)) = cellsT 16 from rfl] at z15
      (try simp only [Exit.inBlock, Exit.then])
      refine bodyPost_ret (results_single rfl (.cell w.heap.size 148 (cellsT 16) (0, 0) _ rfl z15 hu158 rfl rfl .nil)) rfl ?_
      exact ⟨rfl, (below_set (below_set (below_set (below_set (below_set (below_set (below_set (below_set (below_set (below_set (below_set (below_set (below_set (below_set (below_set (below_set HB.out (Nat.le_refl _)) (Nat.le_refl _)) (Nat.le_refl _)) (Nat.le_refl _)) (Nat.le_refl _)) (Nat.le_refl _)) (Nat.le_refl _)) (Nat.le_refl _)) (Nat.le_refl _)) (Nat.le_refl _)) (Nat.le_refl _)) (Nat.le_refl _)) (Nat.le_refl _)) (Nat.le_refl _)) (Nat.le_refl _)) (Nat.le_refl _))⟩
end Go.Proofs.YteoebfiacnploaaGreatDoor.HRec
namespace Go.Proofs.YteoebfiacnploaaGreatDoor.HRec
open Go.RowKit Go.Proofs.YteoebfiacnploaaGreatDoorW.PrintWords Go.Proofs.YteoebfiacnploaaGreatDoorW.PrintLast Go.Proofs.YteoebfiacnploaaGreatDoorW.PrintMore
set_option linter.unusedVariables false
set_option linter.unusedSimpArgs false
def sumHalf (c : Int) : Int := Go.bits .xor .u32 (c / 16) (tabI (Go.bits .and .u32 c 15).toNat)
def sumStep (c b : Int) : Int := sumHalf (sumHalf (Go.bits .xor .u32 c b))
def sumRun (c : Int) (s : ByteArray) (n : Nat) : Int := (s.data.toList.take n).foldl (fun c b => sumStep c (b.toNat : Int)) c
theorem and_range (c : Int) : 0 ≤ Go.bits .and .u32 c 15 ∧ (Go.bits .and .u32 c 15).toNat < 16 := by
  have key : (BitVec.ofInt 32 c &&& BitVec.ofInt 32 15).toNat < 16 := by
    have : (BitVec.ofInt 32 c &&& BitVec.ofInt 32 15).toNat ≤ (BitVec.ofInt 32 15).toNat := by
      rw [BitVec.toNat_and]; exact Nat.and_le_right
    have h15 : (BitVec.ofInt 32 15).toNat = 15 := by decide
    omega
  have e : Go.bits .and .u32 c 15 = IntKind.u32.wrap ((BitVec.ofInt 32 c &&& BitVec.ofInt 32 15).toNat : Int) := rfl
  rw [e, IntKind.wrap_u32]
  omega
theorem cells16 : cellsT 16 = #[.int .u32 (tabI 0), .int .u32 (tabI 1), .int .u32 (tabI 2), .int .u32 (tabI 3), .int .u32 (tabI 4), .int .u32 (tabI 5), .int .u32 (tabI 6), .int .u32 (tabI 7), .int .u32 (tabI 8), .int .u32 (tabI 9), .int .u32 (tabI 10), .int .u32 (tabI 11), .int .u32 (tabI 12), .int .u32 (tabI 13), .int .u32 (tabI 14), .int .u32 (tabI 15)] := rfl
set_option maxHeartbeats 4000000 in
set_option maxRecDepth 100000 in
theorem sum_run.calls (c : Int) (s : ByteArray) (w : World) (hz : s.size ≤ 100000000) :
    Calls Tryz.prog 101 #[.int .u32 c, .string s] w fun e w' => e = .returned (.int .u32 (sumRun c s s.size)) ∧ Below w.heap.size w w' := by
  have hu158 := Tryz.underlying148
  go_enter Tryz.func101, Tryz.ntmps101
  go_wp2_with fail
  refine (sum_table.calls _).mono ?_
  rintro e w1 ⟨rfl, hb⟩
  rw [cells16]
  have HB := Aside0.mk hb; clear hb
  go_wp2_with fail
  obtain ⟨g, hg⟩ : ∃ g, g = w1.heap.size := ⟨_, rfl⟩
  have H1 := Aside0.mk (blk_new w1 (.cells (cellsT 16) 148)); have HB1 := Aside0.mk (below_alloc HB.out (.cells (cellsT 16) 148))
  have HG := Aside0.mk (show w.heap.size ≤ g by rw [hg]; exact HB.out.size)
  rw [← cells16]
  rw [← hg] at H1
  rw [← hg]
  clear hg HB
  generalize w1.alloc (.cells (cellsT 16) 148) = w2 at *
  go_loopw [0, 10] (fun v u wr => ∃ j : Nat, j ≤ s.size ∧ v = .int .u32 (sumRun c s j) ∧ u = .int .i64 (j : Int) ∧ Aside0 (wr.heap[g]? = some (.cells (cellsT 16) 148 (0, 0))) ∧ Aside0 (Below w.heap.size w wr)) (fun v u _ => s.size - (intOf u).toNat)
  case atStart => exact ⟨0, by omega, by simp [sumRun], rfl, H1, HB1⟩
  case round =>
    obtain ⟨j, hj, rfl, rfl, H2, HB2⟩ := hrel
    by_cases hlt : (j : Int) < (s.size : Int)
    · have b0 : decide ((j : Int) < (s.size : Int)) = true := decide_eq_true hlt
      generalize hc : sumRun c s j = d at *
      have hs : sumRun c s (j + 1) = sumStep d (s[j].toNat : Int) := by
        rw [← hc]
        unfold sumRun
        have hk : j < s.data.toList.length := by have : s.data.toList.length = s.size := by cases s; simp [ByteArray.size]
                                                 omega
        rw [List.take_succ_eq_append_getElem hk, List.foldl_append]
        rfl
      have hm : (s[j].toNat : Int) % 4294967296 = (s[j].toNat : Int) := by have := s[j].toNat_lt; omega
      have hw : wrap64 ((j : Int) + 1) = ((j + 1 : Nat) : Int) := by unfold wrap64; omega
      unfold sumStep sumHalf at hs
      rw [← hm] at hs
      have x1 := and_range (Go.bits .xor .u32 d ((s[j].toNat : Int) % 4294967296))
      have k1 := (blk_cell H2.out (Go.bits .and .u32 (Go.bits .xor .u32 d ((s[j].toNat : Int) % 4294967296)) 15).toNat).trans (cellsT_get 16 _ x1.2)
      rw [if_pos x1.2] at k1
      have x2 := and_range (Go.bits .xor .u32 (Go.bits .xor .u32 d ((s[j].toNat : Int) % 4294967296) / 16) (tabI (Go.bits .and .u32 (Go.bits .xor .u32 d ((s[j].toNat : Int) % 4294967296)) 15).toNat))
      have k2 := (blk_cell H2.out (Go.bits .and .u32 (Go.bits .xor .u32 (Go.bits .xor .u32 d ((s[j].toNat : Int) % 4294967296) / 16) (tabI (Go.bits .and .u32 (Go.bits .xor .u32 d ((s[j].toNat : Int) % 4294967296)) 15).toNat)) 15).toNat).trans (cellsT_get 16 _ x2.2)
      rw [if_pos x2.2] at k2
      have HS := Aside0.mk hs; clear hs hm
      go_wp2_with fail
      go_roundw
      case rel => exact ⟨j + 1, by omega, by rw [HS.out], by first | rw [hw] | simp, H2, HB2⟩
      case measure => simp [intOf]; omega
    · have b0 : decide ((j : Int) < (s.size : Int)) = false := decide_eq_false hlt
      obtain rfl : j = s.size := by omega
      go_wp2_with fail
      go_ret
      exact ⟨by simp, HB2.out⟩
theorem xor_range (a b : Int) : 0 ≤ Go.bits .xor .u32 a b ∧ Go.bits .xor .u32 a b < 4294967296 := by
  have e : Go.bits .xor .u32 a b = IntKind.u32.wrap ((BitVec.ofInt 32 a ^^^ BitVec.ofInt 32 b).toNat : Int) := rfl
  rw [e, IntKind.wrap_u32]
  omega
def sum_Sum.f (s : ByteArray) : Option Int := if s.size ≤ 100000000 then some (Go.bits .xor .u32 (sumRun 4294967295 s s.size) 4294967295) else none
set_option maxHeartbeats 4000000 in
set_option maxRecDepth 100000 in
theorem sum_Sum.calls (a0 : ByteArray) (r : Int) (w : World) (h : sum_Sum.f a0 = some r) :
    Calls Tryz.prog 83 #[.string a0] w fun e w' => e = .returned (.int .i64 r) ∧ Below w.heap.size w w' := by
  unfold sum_Sum.f at h
  split at h
  rotate_left
  · cases h
  rename_i hz
  obtain rfl := Option.some.inj h
  have hr := xor_range (sumRun 4294967295 a0 a0.size) 4294967295
  have hw : wrap64 (Go.bits .xor .u32 (sumRun 4294967295 a0 a0.size) 4294967295) = Go.bits .xor .u32 (sumRun 4294967295 a0 a0.size) 4294967295 := by unfold wrap64; omega
  clear h
  go_enter Tryz.func83, Tryz.ntmps83
  go_wp2_with fail
  refine (sum_run.calls 4294967295 a0 _ hz).mono ?_
  rintro e w1 ⟨rfl, hb⟩
  have HB := Aside0.mk hb; clear hb
  go_wp2_with fail
  go_ret
  exact ⟨by simp [hw], HB.out⟩
end Go.Proofs.YteoebfiacnploaaGreatDoor.HRec
namespace Go.Proofs.YteoebfiacnploaaGreatDoor.HRec
open Go.RowKit Go.Proofs.YteoebfiacnploaaGreatDoor.HRec Go.Proofs.YteoebfiacnploaaGreatDoorW.PrintWords Go.Proofs.YteoebfiacnploaaGreatDoorW.PrintLast Go.Proofs.YteoebfiacnploaaGreatDoorW.PrintMore
attribute [local go_sem] max2_int min2_int max_two min_two max_three min_three max_four min_four   -- for this text's walks alone
set_option linter.unusedVariables false
set_option linter.unusedSimpArgs false
/-! ### sum_Open: function 53 -/
def sum_Open.f (a0 : ByteArray) : Option (ByteArray × Int) := if (a0.size : Int) < 4 then (some ((⟨#[]⟩ : ByteArray), 2)) else ((pack_Read.f a0).bind fun bt102 => ((pack_Reader_Num.f bt102.1 bt102.2.1 bt102.2.2 4).bind fun bt106 => (if 4 ≤ (a0.size : Int) then ((sum_Sum.f (a0.extract 4 a0.size)).bind fun t110 => (if bt106.1 = t110 then (some (a0.extract 4 a0.size, 0)) else (some ((⟨#[]⟩ : ByteArray), 5)))) else (none))))
set_option maxHeartbeats 8000000 in
set_option maxRecDepth 100000 in
theorem sum_Open.calls (a0 : ByteArray) (r1 : ByteArray) (r2 : Int) (w : World) (h : sum_Open.f a0 = some (r1, r2)) :
    Calls Tryz.prog 57 #[.string a0] w fun e w' => e = .returned (.tuple #[.string r1, .int .i64 r2]) ∧ Below w.heap.size w w' := by
  have HB := Aside0.mk (Below.refl w.heap.size w)
  have H : (if (a0.size : Int) < 4 then (some ((⟨#[]⟩ : ByteArray), 2)) else ((pack_Read.f a0).bind fun bt102 => ((pack_Reader_Num.f bt102.1 bt102.2.1 bt102.2.2 4).bind fun bt106 => (if 4 ≤ (a0.size : Int) then ((sum_Sum.f (a0.extract 4 a0.size)).bind fun t110 => (if bt106.1 = t110 then (some (a0.extract 4 a0.size, 0)) else (some ((⟨#[]⟩ : ByteArray), 5)))) else (none))))) = some (r1, r2) := h
  clear h
  by_cases c2 : (a0.size : Int) < 4
  · rw [if_pos c2] at H
    have c2b0 : decide ((a0.size : Int) < 4) = true := decide_eq_true c2
    have c2b1 : decide (a0.size < 4) = true := decide_eq_true (by omega)
    clear c2
    simp only [Option.some.injEq, Prod.mk.injEq] at H
    obtain ⟨rfl, rfl⟩ := H
    go_enter Tryz.func57, Tryz.ntmps57
    go_wp2
    go_ret2
    exact ⟨by first | rfl | (simp [errW_none, errW_some] <;> rfl) | (simp [*, errW_none, errW_some] <;> rfl), by repeat (first | (with_reducible first | exact HB.out | apply below_alloc | apply pw_below_drewN | apply below_drew1) | exact HB.out)⟩
  · rw [if_neg c2] at H
    have c2b0 : decide ((a0.size : Int) < 4) = false := decide_eq_false c2
    have c2b1 : decide (a0.size < 4) = false := decide_eq_false (by omega)
    clear c2
    replace H := Option.bind_eq_some_iff.mp H
    obtain ⟨⟨t102, t103, t104⟩, A30, H⟩ := H
    replace H : ((pack_Reader_Num.f t102 t103 t104 4).bind fun bt106 => (if 4 ≤ (a0.size : Int) then ((sum_Sum.f (a0.extract 4 a0.size)).bind fun t110 => (if bt106.1 = t110 then (some (a0.extract 4 a0.size, 0)) else (some ((⟨#[]⟩ : ByteArray), 5)))) else (none))) = some (r1, r2) := H
    have A3 := Aside0.mk A30; clear A30
    replace H := Option.bind_eq_some_iff.mp H
    obtain ⟨⟨t106, t107, t108, t109⟩, A40, H⟩ := H
    replace H : (if 4 ≤ (a0.size : Int) then ((sum_Sum.f (a0.extract 4 a0.size)).bind fun t110 => (if t106 = t110 then (some (a0.extract 4 a0.size, 0)) else (some ((⟨#[]⟩ : ByteArray), 5)))) else (none)) = some (r1, r2) := H
    have A4 := Aside0.mk A40; clear A40
    by_cases c5 : 4 ≤ (a0.size : Int)
    · rw [if_pos c5] at H
      have c5b0 := eq_true c5
      have c5b1 : decide (4 ≤ (a0.size : Int)) = true := decide_eq_true c5
      clear c5
      replace H := Option.bind_eq_some_iff.mp H
      obtain ⟨t110, A60, H⟩ := H
      replace H : (if t106 = t110 then (some (a0.extract 4 a0.size, 0)) else (some ((⟨#[]⟩ : ByteArray), 5))) = some (r1, r2) := H
      have A6 := Aside0.mk A60; clear A60
      by_cases c7 : t106 = t110
      · rw [if_pos c7] at H
        have c7b0 : (t106 == t110) = true := beq_iff_eq.mpr c7
        have c7b1 : (t106 != t110) = false := bne_eq_false_iff_eq.mpr c7
        clear c7
        have c8b0 := eq_true (of_decide_eq_true (by first | (with_reducible assumption) | assumption) : 4 ≤ (a0.size : Int))
        simp only [Option.some.injEq, Prod.mk.injEq] at H
        obtain ⟨rfl, rfl⟩ := H
        go_enter Tryz.func57, Tryz.ntmps57
        go_wp2_with (first | ((with_reducible refine gate_callee (f := 46) rfl ?_); refine goesL_ (some 9) rfl rfl Tryz.func46 (by kernel_rfl) rfl #[.string a0] rfl (by (try simp only [List.map_toArray, List.map_cons, List.map_nil]); first | done | rfl | (simp only [List.length_drop, List.length_take]; rfl)) ?_; (with_reducible refine (pack_Read.calls a0 t102 t103 t104 w _ ?side1 A3.out).mono ?_); (case side1 => repeat (first | (with_reducible first | exact HB.out | apply below_alloc | apply pw_below_drewN | apply below_drew1) | exact HB.out)); rintro e w9 ⟨g105, rfl, hi, hb, hb2⟩; refine ⟨_, rfl, ?_⟩; have n0_ := Aside0.mk (hb); have n1_ := Aside0.mk (hi); clear HB; have HB := n0_; have HI105 := n1_; clear n0_ n1_; (try clear hb); (try clear hb2); (try clear hk); (try clear hi)) | ((with_reducible refine gate_callee (f := 47) rfl ?_); refine goesL_ (some 10) rfl rfl Tryz.func47 (by kernel_rfl) rfl #[.pointer (some ⟨g105, 0, none⟩), .int .i64 4] rfl (by (try simp only [List.map_toArray, List.map_cons, List.map_nil]); first | done | rfl | (simp only [List.length_drop, List.length_take]; rfl)) ?_; (with_reducible refine (pack_Reader_Num.calls g105 t102 t103 t104 4 t106 t107 t108 t109 w _ ?side1 ?side2 A4.out).mono ?_); (case side1 => repeat (first | (with_reducible first | exact HI105.out | apply IsS124.alloc | apply IsS124.drewN | apply IsS124.drew | apply IsS124.set_0 | apply IsS124.set_1 | apply IsS124.set_2) | exact HI105.out)); (case side2 => repeat (first | (with_reducible first | exact HB.out | apply below_alloc | apply pw_below_drewN | apply below_drew1 | refine below_set ?_ (IsS124.ge HI105.out)) | exact HB.out)); rintro e w10 ⟨rfl, hi, hb, hk⟩; refine ⟨_, rfl, ?_⟩; have n0_ := Aside0.mk (hb); have n1_ := Aside0.mk (hi); clear HB; clear HI105; have HB := n0_; have HI105 := n1_; clear n0_ n1_; (try clear hb); (try clear hb2); (try clear hk); (try clear hi)) | ((with_reducible refine gate_callee (f := 83) rfl ?_); refine goesL_ (some 14) rfl rfl Tryz.func83 (by kernel_rfl) rfl #[.string (a0.extract 4 a0.size)] rfl (by (try simp only [List.map_toArray, List.map_cons, List.map_nil]); first | done | rfl | (simp only [List.length_drop, List.length_take]; rfl)) ?_; (with_reducible refine (sum_Sum.calls (a0.extract 4 a0.size) t110 _ A6.out).mono ?_); rintro e w11 ⟨rfl, hb⟩; refine ⟨_, rfl, ?_⟩; have n0_ := Aside0.mk (IsS124.below (by repeat (first | (with_reducible first | exact HI105.out | apply IsS124.alloc | apply IsS124.drewN | apply IsS124.drew | apply IsS124.set_0 | apply IsS124.set_1 | apply IsS124.set_2) | exact HI105.out)) hb); have n1_ := Aside0.mk (below_step (by repeat (first | (with_reducible first | exact HB.out | apply below_alloc | apply pw_below_drewN | apply below_drew1 | refine below_set ?_ (IsS124.ge HI105.out)) | exact HB.out)) hb); clear HI105; clear HB; have HI105 := n0_; have HB := n1_; clear n0_ n1_; (try clear hb); (try clear hb2); (try clear hk); (try clear hi)))
        go_ret2
        exact ⟨by first | rfl | (simp [errW_none, errW_some] <;> rfl) | (simp [*, errW_none, errW_some] <;> rfl), by repeat (first | (with_reducible first | exact HB.out | apply below_alloc | apply pw_below_drewN | apply below_drew1 | refine below_set ?_ (IsS124.ge HI105.out)) | exact HB.out)⟩
      · rw [if_neg c7] at H
        have c7b0 : (t106 == t110) = false := beq_eq_false_iff_ne.mpr c7
        have c7b1 : (t106 != t110) = true := bne_iff_ne.mpr c7
        simp only [Option.some.injEq, Prod.mk.injEq] at H
        obtain ⟨rfl, rfl⟩ := H
        go_enter Tryz.func57, Tryz.ntmps57
        go_wp2_with (first | ((with_reducible refine gate_callee (f := 46) rfl ?_); refine goesL_ (some 9) rfl rfl Tryz.func46 (by kernel_rfl) rfl #[.string a0] rfl (by (try simp only [List.map_toArray, List.map_cons, List.map_nil]); first | done | rfl | (simp only [List.length_drop, List.length_take]; rfl)) ?_; (with_reducible refine (pack_Read.calls a0 t102 t103 t104 w _ ?side1 A3.out).mono ?_); (case side1 => repeat (first | (with_reducible first | exact HB.out | apply below_alloc | apply pw_below_drewN | apply below_drew1) | exact HB.out)); rintro e w12 ⟨g105, rfl, hi, hb, hb2⟩; refine ⟨_, rfl, ?_⟩; have n0_ := Aside0.mk (hb); have n1_ := Aside0.mk (hi); clear HB; have HB := n0_; have HI105 := n1_; clear n0_ n1_; (try clear hb); (try clear hb2); (try clear hk); (try clear hi)) | ((with_reducible refine gate_callee (f := 47) rfl ?_); refine goesL_ (some 10) rfl rfl Tryz.func47 (by kernel_rfl) rfl #[.pointer (some ⟨g105, 0, none⟩), .int .i64 4] rfl (by (try simp only [List.map_toArray, List.map_cons, List.map_nil]); first | done | rfl | (simp only [List.length_drop, List.length_take]; rfl)) ?_; (with_reducible refine (pack_Reader_Num.calls g105 t102 t103 t104 4 t106 t107 t108 t109 w _ ?side1 ?side2 A4.out).mono ?_); (case side1 => repeat (first | (with_reducible first | exact HI105.out | apply IsS124.alloc | apply IsS124.drewN | apply IsS124.drew | apply IsS124.set_0 | apply IsS124.set_1 | apply IsS124.set_2) | exact HI105.out)); (case side2 => repeat (first | (with_reducible first | exact HB.out | apply below_alloc | apply pw_below_drewN | apply below_drew1 | refine below_set ?_ (IsS124.ge HI105.out)) | exact HB.out)); rintro e w13 ⟨rfl, hi, hb, hk⟩; refine ⟨_, rfl, ?_⟩; have n0_ := Aside0.mk (hb); have n1_ := Aside0.mk (hi); clear HB; clear HI105; have HB := n0_; have HI105 := n1_; clear n0_ n1_; (try clear hb); (try clear hb2); (try clear hk); (try clear hi)) | ((with_reducible refine gate_callee (f := 83) rfl ?_); refine goesL_ (some 14) rfl rfl Tryz.func83 (by kernel_rfl) rfl #[.string (a0.extract 4 a0.size)] rfl (by (try simp only [List.map_toArray, List.map_cons, List.map_nil]); first | done | rfl | (simp only [List.length_drop, List.length_take]; rfl)) ?_; (with_reducible refine (sum_Sum.calls (a0.extract 4 a0.size) t110 _ A6.out).mono ?_); rintro e w14 ⟨rfl, hb⟩; refine ⟨_, rfl, ?_⟩; have n0_ := Aside0.mk (IsS124.below (by repeat (first | (with_reducible first | exact HI105.out | apply IsS124.alloc | apply IsS124.drewN | apply IsS124.drew | apply IsS124.set_0 | apply IsS124.set_1 | apply IsS124.set_2) | exact HI105.out)) hb); have n1_ := Aside0.mk (below_step (by repeat (first | (with_reducible first | exact HB.out | apply below_alloc | apply pw_below_drewN | apply below_drew1 | refine below_set ?_ (IsS124.ge HI105.out)) | exact HB.out)) hb); clear HI105; clear HB; have HI105 := n0_; have HB := n1_; clear n0_ n1_; (try clear hb); (try clear hb2); (try clear hk); (try clear hi)))
        go_ret2
        exact ⟨by first | rfl | (simp [errW_none, errW_some] <;> rfl) | (simp [*, errW_none, errW_some] <;> rfl), by repeat (first | (with_reducible first | exact HB.out | apply below_alloc | apply pw_below_drewN | apply below_drew1 | refine below_set ?_ (IsS124.ge HI105.out)) | exact HB.out)⟩
    · rw [if_neg c5] at H
      exact absurd H (by simp)

end Go.Proofs.YteoebfiacnploaaGreatDoor.HRec
