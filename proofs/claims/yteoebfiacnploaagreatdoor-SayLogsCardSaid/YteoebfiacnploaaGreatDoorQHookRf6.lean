/- The contract of rec.Clean: a record with just what its kind has. The kind of an undo. It proves no statement. -/
import Derived.BigRegion
import Derived.Test.YteoebfiacnploaaGreatDoorQG3
namespace Go.Proofs.YteoebfiacnploaaGreatDoor.HRec
open Go.RowKit Go.Proofs.YteoebfiacnploaaGreatDoorW.PrintWords Go.Proofs.YteoebfiacnploaaGreatDoorW.PrintLast Go.Proofs.YteoebfiacnploaaGreatDoorW.PrintMore
set_option linter.unusedVariables false
set_option linter.unusedSimpArgs false
theorem store_step {P : Program} {ops : Array Oper} {o : Oper} {a : Act} {Q : Exit → Act → World → Prop} {K : Act → World → Prop} {W w1 : World} (hw : Region.wanted o (yielded ops a.tmps) = true) (hd : o.dst = none) (hrun : (execOp a.eval o).run P W = .ok .skip w1) (h : K a w1) :
    if Region.wanted o (yielded ops a.tmps) = true then Oper.wp P o a W K Q else K (a.put none undef) W := by
  rw [if_pos hw]
  unfold Oper.wp
  rw [hrun]
  show K (a.put o.dst undef) w1
  rw [hd]
  exact h
theorem IsRec.drew {W : World} {h : Nat} {x0 x1 x2 x3 x4 : Int} {k o n : ByteArray} {x8 : Int} {vI vT : Value} {x11 x12 : Int} (hr : IsRec W h x0 x1 x2 x3 x4 k o n x8 vI vT x11 x12) : IsRec W.drew h x0 x1 x2 x3 x4 k o n x8 vI vT x11 x12 := hr
theorem IsRec.far {W : World} {h : Nat} {x0 x1 x2 x3 x4 : Int} {k o n : ByteArray} {x8 : Int} {vI vT : Value} {x11 x12 : Int} (hr : IsRec W h x0 x1 x2 x3 x4 k o n x8 vI vT x11 x12) {p : Addr} (hp : h ≠ p.block) (u : Value) : IsRec (W.setCell p u) h x0 x1 x2 x3 x4 k o n x8 vI vT x11 x12 := blk_far hr hp u
section
variable {W : World} {h : Nat} {x0 x1 x2 x3 x4 : Int} {k o n : ByteArray} {x8 : Int} {vI vT : Value} {x11 x12 : Int}
theorem IsRec.k_0 (hr : IsRec W h x0 x1 x2 x3 x4 k o n x8 vI vT x11 x12) : W.cell? ⟨h, 0, none⟩ = some (.int .i64 x0) := (blk_cell hr 0).trans rfl
theorem IsRec.k_1 (hr : IsRec W h x0 x1 x2 x3 x4 k o n x8 vI vT x11 x12) : W.cell? ⟨h, 1, none⟩ = some (.int .i64 x1) := (blk_cell hr 1).trans rfl
theorem IsRec.k_2 (hr : IsRec W h x0 x1 x2 x3 x4 k o n x8 vI vT x11 x12) : W.cell? ⟨h, 2, none⟩ = some (.int .i64 x2) := (blk_cell hr 2).trans rfl
theorem IsRec.k_3 (hr : IsRec W h x0 x1 x2 x3 x4 k o n x8 vI vT x11 x12) : W.cell? ⟨h, 3, none⟩ = some (.int .i64 x3) := (blk_cell hr 3).trans rfl
theorem IsRec.k_4 (hr : IsRec W h x0 x1 x2 x3 x4 k o n x8 vI vT x11 x12) : W.cell? ⟨h, 4, none⟩ = some (.int .i64 x4) := (blk_cell hr 4).trans rfl
theorem IsRec.k_5 (hr : IsRec W h x0 x1 x2 x3 x4 k o n x8 vI vT x11 x12) : W.cell? ⟨h, 5, none⟩ = some (.string k) := (blk_cell hr 5).trans rfl
theorem IsRec.k_6 (hr : IsRec W h x0 x1 x2 x3 x4 k o n x8 vI vT x11 x12) : W.cell? ⟨h, 6, none⟩ = some (.string o) := (blk_cell hr 6).trans rfl
theorem IsRec.k_7 (hr : IsRec W h x0 x1 x2 x3 x4 k o n x8 vI vT x11 x12) : W.cell? ⟨h, 7, none⟩ = some (.string n) := (blk_cell hr 7).trans rfl
theorem IsRec.k_8 (hr : IsRec W h x0 x1 x2 x3 x4 k o n x8 vI vT x11 x12) : W.cell? ⟨h, 8, none⟩ = some (.int .i64 x8) := (blk_cell hr 8).trans rfl
theorem IsRec.k_9 (hr : IsRec W h x0 x1 x2 x3 x4 k o n x8 vI vT x11 x12) : W.cell? ⟨h, 9, none⟩ = some (vI) := (blk_cell hr 9).trans rfl
theorem IsRec.k_10 (hr : IsRec W h x0 x1 x2 x3 x4 k o n x8 vI vT x11 x12) : W.cell? ⟨h, 10, none⟩ = some (vT) := (blk_cell hr 10).trans rfl
theorem IsRec.k_11 (hr : IsRec W h x0 x1 x2 x3 x4 k o n x8 vI vT x11 x12) : W.cell? ⟨h, 11, none⟩ = some (.int .i64 x11) := (blk_cell hr 11).trans rfl
theorem IsRec.k_12 (hr : IsRec W h x0 x1 x2 x3 x4 k o n x8 vI vT x11 x12) : W.cell? ⟨h, 12, none⟩ = some (.int .i64 x12) := (blk_cell hr 12).trans rfl
end
theorem IsRec.ks {W : World} {h : Nat} {x0 x1 x2 x3 x4 : Int} {k o n : ByteArray} {x8 : Int} {vI vT : Value} {x11 x12 : Int} (hr : IsRec W h x0 x1 x2 x3 x4 k o n x8 vI vT x11 x12) : W.cell? ⟨h, 0, none⟩ = some (.int .i64 x0) ∧ W.cell? ⟨h, 1, none⟩ = some (.int .i64 x1) ∧ W.cell? ⟨h, 2, none⟩ = some (.int .i64 x2) ∧ W.cell? ⟨h, 3, none⟩ = some (.int .i64 x3) ∧ W.cell? ⟨h, 4, none⟩ = some (.int .i64 x4) ∧ W.cell? ⟨h, 5, none⟩ = some (.string k) ∧ W.cell? ⟨h, 6, none⟩ = some (.string o) ∧ W.cell? ⟨h, 7, none⟩ = some (.string n) ∧ W.cell? ⟨h, 8, none⟩ = some (.int .i64 x8) ∧ W.cell? ⟨h, 9, none⟩ = some (vI) ∧ W.cell? ⟨h, 10, none⟩ = some (vT) ∧ W.cell? ⟨h, 11, none⟩ = some (.int .i64 x11) ∧ W.cell? ⟨h, 12, none⟩ = some (.int .i64 x12) := ⟨IsRec.k_0 hr, IsRec.k_1 hr, IsRec.k_2 hr, IsRec.k_3 hr, IsRec.k_4 hr, IsRec.k_5 hr, IsRec.k_6 hr, IsRec.k_7 hr, IsRec.k_8 hr, IsRec.k_9 hr, IsRec.k_10 hr, IsRec.k_11 hr, IsRec.k_12 hr⟩
def rec_Clean.T12 : Bool × List (List Nat × List Nat) := (true, [([], []), ([0], [0]), ([], []), ([2], [2]), ([], []), ([4], [4]), ([], []), ([6], [6]), ([], []), ([8], [8]), ([], []), ([10], [10]), ([], []), ([12], [12]), ([], []), ([14], [14]), ([0, 1], []), ([16, 1, 0, 1], [1, 16]), ([0, 1, 2, 3, 16, 17], []), ([18, 3, 17, 0, 1, 2, 3, 16, 17], [3, 18]), ([0, 1, 2, 3, 4, 5, 16, 17, 18, 19], []), ([20, 5, 19, 0, 1, 2, 3, 4, 5, 16, 17, 18, 19], [5, 20]), ([0, 1, 2, 3, 4, 5, 6, 7, 16, 17, 18, 19, 20, 21], []), ([22, 7, 21, 0, 1, 2, 3, 4, 5, 6, 7, 16, 17, 18, 19, 20, 21], [7, 22]), ([0, 1, 2, 3, 4, 5, 6, 7, 8, 9, 16, 17, 18, 19, 20, 21, 22, 23], []), ([24, 9, 23, 0, 1, 2, 3, 4, 5, 6, 7, 8, 9, 16, 17, 18, 19, 20, 21, 22, 23], [9, 24]), ([0, 1, 2, 3, 4, 5, 6, 7, 8, 9, 10, 11, 16, 17, 18, 19, 20, 21, 22, 23, 24, 25], []), ([26, 11, 25, 0, 1, 2, 3, 4, 5, 6, 7, 8, 9, 10, 11, 16, 17, 18, 19, 20, 21, 22, 23, 24, 25], [11, 26]), ([0, 1, 2, 3, 4, 5, 6, 7, 8, 9, 10, 11, 12, 13, 16, 17, 18, 19, 20, 21, 22, 23, 24, 25, 26, 27], []), ([28, 13, 27, 0, 1, 2, 3, 4, 5, 6, 7, 8, 9, 10, 11, 12, 13, 16, 17, 18, 19, 20, 21, 22, 23, 24, 25, 26, 27], [13, 28]), ([0, 1, 2, 3, 4, 5, 6, 7, 8, 9, 10, 11, 12, 13, 14, 15, 16, 17, 18, 19, 20, 21, 22, 23, 24, 25, 26, 27, 28, 29], []), ([30, 15, 29, 0, 1, 2, 3, 4, 5, 6, 7, 8, 9, 10, 11, 12, 13, 14, 15, 16, 17, 18, 19, 20, 21, 22, 23, 24, 25, 26, 27, 28, 29], [15, 30])])
def rec_Clean.B12 : List Nat := [0, 1, 0, 4, 0, 16, 0, 64, 0, 256, 0, 1024, 0, 4096, 0, 16384, 3, 65539, 196623, 458767, 983103, 2031679, 4129023, 8323327, 16712703, 33489919, 67047423, 134156287, 268386303, 536821759, 1073741823, 2147483647]
theorem rec_Clean.tab12 : rtab .any (opsOf Tryz.f34 12) = rec_Clean.T12 := by kernel_rfl
theorem rec_Clean.bits12 : waitsOk rec_Clean.T12.2 rec_Clean.B12 = true := by kernel_rfl
set_option maxHeartbeats 8000000 in
set_option maxRecDepth 100000 in
theorem clean_6 (x1 x2 x3 x4 : Int) (kk oo nn : ByteArray) (x8 : Int) (A9 : Option Addr) (c9 : Nat) (l9 : List S144) (A10 : Option Addr) (c10 : Nat) (l10 : List S36) (x11 x12 : Int) (w : World) :
    Calls Tryz.prog 34 #[.agg #[.int .i64 6, .int .i64 x1, .int .i64 x2, .int .i64 x3, .int .i64 x4, .string kk, .string oo, .string nn, .int .i64 x8, .slice A9 l9.length c9, .slice A10 l10.length c10, .int .i64 x11, .int .i64 x12]] w fun e w' => e = .returned (.agg #[.int .i64 6, .int .i64 x1, .int .i64 x2, .int .i64 x3, .int .i64 x4, .string kk, .string (if x4 = 3 then ⟨#[]⟩ else oo), .string (if x4 = 4 then ⟨#[]⟩ else nn), .int .i64 x8, .slice none 0 0, .slice none 0 0, .int .i64 0, .int .i64 0]) ∧ Below w.heap.size w w' := by
  have hu32 := Tryz.underlying33
  have hs1 : (w.alloc (.cells #[.int .i64 6, .int .i64 x1, .int .i64 x2, .int .i64 x3, .int .i64 x4, .string kk, .string oo, .string nn, .int .i64 x8, .slice A9 l9.length c9, .slice A10 l10.length c10, .int .i64 x11, .int .i64 x12] 33)).heap.size = w.heap.size + 1 := by simp
  have hs2 : ((w.alloc (.cells #[.int .i64 6, .int .i64 x1, .int .i64 x2, .int .i64 x3, .int .i64 x4, .string kk, .string oo, .string nn, .int .i64 x8, .slice A9 l9.length c9, .slice A10 l10.length c10, .int .i64 x11, .int .i64 x12] 33)).alloc (.cells #[.int .i64 0, .int .i64 0, .int .i64 0, .int .i64 0, .int .i64 0, .string ⟨#[]⟩, .string ⟨#[]⟩, .string ⟨#[]⟩, .int .i64 0, .slice none 0 0, .slice none 0 0, .int .i64 0, .int .i64 0] 33)).heap.size = w.heap.size + 1 + 1 := by simp
  have Rr : IsRec (((w.alloc (.cells #[.int .i64 6, .int .i64 x1, .int .i64 x2, .int .i64 x3, .int .i64 x4, .string kk, .string oo, .string nn, .int .i64 x8, .slice A9 l9.length c9, .slice A10 l10.length c10, .int .i64 x11, .int .i64 x12] 33)).alloc (.cells #[.int .i64 0, .int .i64 0, .int .i64 0, .int .i64 0, .int .i64 0, .string ⟨#[]⟩, .string ⟨#[]⟩, .string ⟨#[]⟩, .int .i64 0, .slice none 0 0, .slice none 0 0, .int .i64 0, .int .i64 0] 33)).alloc (.cells #[.int .i64 6, .int .i64 0, .int .i64 0, .int .i64 0, .int .i64 0, .string ⟨#[]⟩, .string ⟨#[]⟩, .string ⟨#[]⟩, .int .i64 0, .slice none 0 0, .slice none 0 0, .int .i64 0, .int .i64 0] 33)) w.heap.size 6 x1 x2 x3 x4 kk oo nn x8 (.slice A9 l9.length c9) (.slice A10 l10.length c10) x11 x12 := blk_alloc (blk_alloc (blk_new w _) _) _
  have Rz : IsRec (((w.alloc (.cells #[.int .i64 6, .int .i64 x1, .int .i64 x2, .int .i64 x3, .int .i64 x4, .string kk, .string oo, .string nn, .int .i64 x8, .slice A9 l9.length c9, .slice A10 l10.length c10, .int .i64 x11, .int .i64 x12] 33)).alloc (.cells #[.int .i64 0, .int .i64 0, .int .i64 0, .int .i64 0, .int .i64 0, .string ⟨#[]⟩, .string ⟨#[]⟩, .string ⟨#[]⟩, .int .i64 0, .slice none 0 0, .slice none 0 0, .int .i64 0, .int .i64 0] 33)).alloc (.cells #[.int .i64 6, .int .i64 0, .int .i64 0, .int .i64 0, .int .i64 0, .string ⟨#[]⟩, .string ⟨#[]⟩, .string ⟨#[]⟩, .int .i64 0, .slice none 0 0, .slice none 0 0, .int .i64 0, .int .i64 0] 33)) (w.heap.size + 1) 0 0 0 0 0 ⟨#[]⟩ ⟨#[]⟩ ⟨#[]⟩ 0 (.slice none 0 0) (.slice none 0 0) 0 0 := by
    have := blk_new (w.alloc (.cells #[.int .i64 6, .int .i64 x1, .int .i64 x2, .int .i64 x3, .int .i64 x4, .string kk, .string oo, .string nn, .int .i64 x8, .slice A9 l9.length c9, .slice A10 l10.length c10, .int .i64 x11, .int .i64 x12] 33)) (.cells #[.int .i64 0, .int .i64 0, .int .i64 0, .int .i64 0, .int .i64 0, .string ⟨#[]⟩, .string ⟨#[]⟩, .string ⟨#[]⟩, .int .i64 0, .slice none 0 0, .slice none 0 0, .int .i64 0, .int .i64 0] 33)
    rw [hs1] at this
    exact blk_alloc this _
  have Ro : IsRec (((w.alloc (.cells #[.int .i64 6, .int .i64 x1, .int .i64 x2, .int .i64 x3, .int .i64 x4, .string kk, .string oo, .string nn, .int .i64 x8, .slice A9 l9.length c9, .slice A10 l10.length c10, .int .i64 x11, .int .i64 x12] 33)).alloc (.cells #[.int .i64 0, .int .i64 0, .int .i64 0, .int .i64 0, .int .i64 0, .string ⟨#[]⟩, .string ⟨#[]⟩, .string ⟨#[]⟩, .int .i64 0, .slice none 0 0, .slice none 0 0, .int .i64 0, .int .i64 0] 33)).alloc (.cells #[.int .i64 6, .int .i64 0, .int .i64 0, .int .i64 0, .int .i64 0, .string ⟨#[]⟩, .string ⟨#[]⟩, .string ⟨#[]⟩, .int .i64 0, .slice none 0 0, .slice none 0 0, .int .i64 0, .int .i64 0] 33)) (w.heap.size + 1 + 1) 6 0 0 0 0 ⟨#[]⟩ ⟨#[]⟩ ⟨#[]⟩ 0 (.slice none 0 0) (.slice none 0 0) 0 0 := by
    have := blk_new ((w.alloc (.cells #[.int .i64 6, .int .i64 x1, .int .i64 x2, .int .i64 x3, .int .i64 x4, .string kk, .string oo, .string nn, .int .i64 x8, .slice A9 l9.length c9, .slice A10 l10.length c10, .int .i64 x11, .int .i64 x12] 33)).alloc (.cells #[.int .i64 0, .int .i64 0, .int .i64 0, .int .i64 0, .int .i64 0, .string ⟨#[]⟩, .string ⟨#[]⟩, .string ⟨#[]⟩, .int .i64 0, .slice none 0 0, .slice none 0 0, .int .i64 0, .int .i64 0] 33)) (.cells #[.int .i64 6, .int .i64 0, .int .i64 0, .int .i64 0, .int .i64 0, .string ⟨#[]⟩, .string ⟨#[]⟩, .string ⟨#[]⟩, .int .i64 0, .slice none 0 0, .slice none 0 0, .int .i64 0, .int .i64 0] 33)
    rw [hs2] at this
    exact this
  have hB : Below w.heap.size w (((w.alloc (.cells #[.int .i64 6, .int .i64 x1, .int .i64 x2, .int .i64 x3, .int .i64 x4, .string kk, .string oo, .string nn, .int .i64 x8, .slice A9 l9.length c9, .slice A10 l10.length c10, .int .i64 x11, .int .i64 x12] 33)).alloc (.cells #[.int .i64 0, .int .i64 0, .int .i64 0, .int .i64 0, .int .i64 0, .string ⟨#[]⟩, .string ⟨#[]⟩, .string ⟨#[]⟩, .int .i64 0, .slice none 0 0, .slice none 0 0, .int .i64 0, .int .i64 0] 33)).alloc (.cells #[.int .i64 6, .int .i64 0, .int .i64 0, .int .i64 0, .int .i64 0, .string ⟨#[]⟩, .string ⟨#[]⟩, .string ⟨#[]⟩, .int .i64 0, .slice none 0 0, .slice none 0 0, .int .i64 0, .int .i64 0] 33)) := below_alloc (below_alloc (below_alloc (Below.refl _ _) _) _) _
  have RRA := Aside0.mk Rr; have RZA := Aside0.mk Rz; have ROA := Aside0.mk Ro; have BB_ := Aside0.mk hB; clear Rr Rz Ro hB hs1 hs2
  go_enter Tryz.func34, Tryz.ntmps34
  go_wp2_with fail
  generalize (((w.alloc (.cells #[.int .i64 6, .int .i64 x1, .int .i64 x2, .int .i64 x3, .int .i64 x4, .string kk, .string oo, .string nn, .int .i64 x8, .slice A9 l9.length c9, .slice A10 l10.length c10, .int .i64 x11, .int .i64 x12] 33)).alloc (.cells #[.int .i64 0, .int .i64 0, .int .i64 0, .int .i64 0, .int .i64 0, .string ⟨#[]⟩, .string ⟨#[]⟩, .string ⟨#[]⟩, .int .i64 0, .slice none 0 0, .slice none 0 0, .int .i64 0, .int .i64 0] 33)).alloc (.cells #[.int .i64 6, .int .i64 0, .int .i64 0, .int .i64 0, .int .i64 0, .string ⟨#[]⟩, .string ⟨#[]⟩, .string ⟨#[]⟩, .int .i64 0, .slice none 0 0, .slice none 0 0, .int .i64 0, .int .i64 0] 33)) = W at *
  obtain ⟨gr, hgr⟩ : ∃ gr, gr = w.heap.size := ⟨_, rfl⟩
  obtain ⟨go, hgo⟩ : ∃ go, go = w.heap.size + 1 + 1 := ⟨_, rfl⟩
  rw [← hgo, ← hgr]
  rw [← hgr] at RRA
  rw [← hgo] at ROA
  rw [← hgr] at RZA
  have hne : gr ≠ go := by omega
  have hnz : gr + 1 ≠ go := by omega
  have GZ_ := Aside0.mk (show w.heap.size ≤ gr + 1 by omega)
  have GO_ := Aside0.mk (show w.heap.size ≤ go by omega)
  have RR_ := RRA; have RO_ := ROA; have RZ_ := RZA; clear RRA ROA RZA; clear hgr hgo
  refine start_ (n := 32) (S := fun w' => IsRec w' gr 6 x1 x2 x3 x4 kk oo nn x8 (.slice A9 l9.length c9) (.slice A10 l10.length c10) x11 x12) (ds := []) #[false, false, false, false, false, false, false, false, false, false, false, false, false, false, false, false, false, false, false, false, false, false, false, false, false, false, false, false, false, false, false, false] (by kernel_rfl) rfl rfl (IsRec.drew RR_.out) (fun hHeld => ?_); refine with_tabW rec_Clean.tab12 rec_Clean.bits12 (fun HT_ HW_ => ?_)
  have n0_ := Aside0.mk (IsRec.drew RR_.out); have n1_ := Aside0.mk (IsRec.drew RO_.out); have n2_ := Aside0.mk (below_drew BB_.out); have n3_ := Aside0.mk (IsRec.drew RZ_.out); clear RR_ RO_ BB_ RZ_
  generalize W.drew = W0 at n0_ n1_ n2_ n3_ hHeld ⊢
  have RR_ := n0_; have RO_ := n1_; have BB_ := n2_; have RZ_ := n3_; clear n0_ n1_ n2_ n3_
  refine pure_ (i := 0) (N := some 42) (v := ?_) (a' := ?_) #[true, false, false, false, false, false, false, false, false, false, false, false, false, false, false, false, false, false, false, false, false, false, false, false, false, false, false, false, false, false, false, false] rfl rfl (any_of HT_.out (by kernel_rfl)) (fun _ _ _ h => h) (Or.inl ⟨by rfl, ?_⟩) ?_ ?_
  rotate_left
  · intro w'
    go_simp
    with_reducible rfl
  rotate_left
  · simp only [Act.put, List.setIfInBounds_toArray, List.set_cons_zero, List.set_cons_succ, i64_w, i32_w]
    rfl
  refine pure_ (i := 2) (N := some 44) (v := ?_) (a' := ?_) #[true, false, true, false, false, false, false, false, false, false, false, false, false, false, false, false, false, false, false, false, false, false, false, false, false, false, false, false, false, false, false, false] rfl rfl (any_of HT_.out (by kernel_rfl)) (fun _ _ _ h => h) (Or.inl ⟨by rfl, ?_⟩) ?_ ?_
  rotate_left
  · intro w'
    go_simp
    with_reducible rfl
  rotate_left
  · simp only [Act.put, List.setIfInBounds_toArray, List.set_cons_zero, List.set_cons_succ, i64_w, i32_w]
    rfl
  refine pure_ (i := 4) (N := some 46) (v := ?_) (a' := ?_) #[true, false, true, false, true, false, false, false, false, false, false, false, false, false, false, false, false, false, false, false, false, false, false, false, false, false, false, false, false, false, false, false] rfl rfl (any_of HT_.out (by kernel_rfl)) (fun _ _ _ h => h) (Or.inl ⟨by rfl, ?_⟩) ?_ ?_
  rotate_left
  · intro w'
    go_simp
    with_reducible rfl
  rotate_left
  · simp only [Act.put, List.setIfInBounds_toArray, List.set_cons_zero, List.set_cons_succ, i64_w, i32_w]
    rfl
  refine pure_ (i := 6) (N := some 48) (v := ?_) (a' := ?_) #[true, false, true, false, true, false, true, false, false, false, false, false, false, false, false, false, false, false, false, false, false, false, false, false, false, false, false, false, false, false, false, false] rfl rfl (any_of HT_.out (by kernel_rfl)) (fun _ _ _ h => h) (Or.inl ⟨by rfl, ?_⟩) ?_ ?_
  rotate_left
  · intro w'
    go_simp
    with_reducible rfl
  rotate_left
  · simp only [Act.put, List.setIfInBounds_toArray, List.set_cons_zero, List.set_cons_succ, i64_w, i32_w]
    rfl
  refine pure_ (i := 8) (N := some 50) (v := ?_) (a' := ?_) #[true, false, true, false, true, false, true, false, true, false, false, false, false, false, false, false, false, false, false, false, false, false, false, false, false, false, false, false, false, false, false, false] rfl rfl (any_of HT_.out (by kernel_rfl)) (fun _ _ _ h => h) (Or.inl ⟨by rfl, ?_⟩) ?_ ?_
  rotate_left
  · intro w'
    go_simp
    with_reducible rfl
  rotate_left
  · simp only [Act.put, List.setIfInBounds_toArray, List.set_cons_zero, List.set_cons_succ, i64_w, i32_w]
    rfl
  refine pure_ (i := 10) (N := some 52) (v := ?_) (a' := ?_) #[true, false, true, false, true, false, true, false, true, false, true, false, false, false, false, false, false, false, false, false, false, false, false, false, false, false, false, false, false, false, false, false] rfl rfl (any_of HT_.out (by kernel_rfl)) (fun _ _ _ h => h) (Or.inl ⟨by rfl, ?_⟩) ?_ ?_
  rotate_left
  · intro w'
    go_simp
    with_reducible rfl
  rotate_left
  · simp only [Act.put, List.setIfInBounds_toArray, List.set_cons_zero, List.set_cons_succ, i64_w, i32_w]
    rfl
  refine pure_ (i := 12) (N := some 54) (v := ?_) (a' := ?_) #[true, false, true, false, true, false, true, false, true, false, true, false, true, false, false, false, false, false, false, false, false, false, false, false, false, false, false, false, false, false, false, false] rfl rfl (any_of HT_.out (by kernel_rfl)) (fun _ _ _ h => h) (Or.inl ⟨by rfl, ?_⟩) ?_ ?_
  rotate_left
  · intro w'
    go_simp
    with_reducible rfl
  rotate_left
  · simp only [Act.put, List.setIfInBounds_toArray, List.set_cons_zero, List.set_cons_succ, i64_w, i32_w]
    rfl
  refine pure_ (i := 14) (N := some 56) (v := ?_) (a' := ?_) #[true, false, true, false, true, false, true, false, true, false, true, false, true, false, true, false, false, false, false, false, false, false, false, false, false, false, false, false, false, false, false, false] rfl rfl (any_of HT_.out (by kernel_rfl)) (fun _ _ _ h => h) (Or.inl ⟨by rfl, ?_⟩) ?_ ?_
  rotate_left
  · intro w'
    go_simp
    with_reducible rfl
  rotate_left
  · simp only [Act.put, List.setIfInBounds_toArray, List.set_cons_zero, List.set_cons_succ, i64_w, i32_w]
    rfl
  refine take_ (i := 1) (N := some 43) (v := ?_) (a' := ?_) #[true, true, true, false, true, false, true, false, true, false, true, false, true, false, true, false, false, false, false, false, false, false, false, false, false, false, false, false, false, false, false, false] rfl rfl (take_ofW HT_.out HW_.out (by kernel_rfl)) (fun _ _ _ h => h) (Or.inl ⟨by rfl, ?_⟩) hHeld ?_ ?_
  rotate_left
  · intro w' hs
    have s1 := IsRec.k_1 hs; have s2 := IsRec.k_2 hs; have s3 := IsRec.k_3 hs; have s4 := IsRec.k_4 hs; have s5 := IsRec.k_5 hs; have s6 := IsRec.k_6 hs; have s7 := IsRec.k_7 hs; have s8 := IsRec.k_8 hs
    go_simp
    with_reducible rfl
  rotate_left
  · simp only [Act.put, List.setIfInBounds_toArray, List.set_cons_zero, List.set_cons_succ, i64_w, i32_w]
    rfl
  refine take_ (i := 3) (N := some 45) (v := ?_) (a' := ?_) #[true, true, true, true, true, false, true, false, true, false, true, false, true, false, true, false, false, false, false, false, false, false, false, false, false, false, false, false, false, false, false, false] rfl rfl (take_ofW HT_.out HW_.out (by kernel_rfl)) (fun _ _ _ h => h) (Or.inl ⟨by rfl, ?_⟩) hHeld ?_ ?_
  rotate_left
  · intro w' hs
    have s1 := IsRec.k_1 hs; have s2 := IsRec.k_2 hs; have s3 := IsRec.k_3 hs; have s4 := IsRec.k_4 hs; have s5 := IsRec.k_5 hs; have s6 := IsRec.k_6 hs; have s7 := IsRec.k_7 hs; have s8 := IsRec.k_8 hs
    go_simp
    with_reducible rfl
  rotate_left
  · simp only [Act.put, List.setIfInBounds_toArray, List.set_cons_zero, List.set_cons_succ, i64_w, i32_w]
    rfl
  refine take_ (i := 5) (N := some 47) (v := ?_) (a' := ?_) #[true, true, true, true, true, true, true, false, true, false, true, false, true, false, true, false, false, false, false, false, false, false, false, false, false, false, false, false, false, false, false, false] rfl rfl (take_ofW HT_.out HW_.out (by kernel_rfl)) (fun _ _ _ h => h) (Or.inl ⟨by rfl, ?_⟩) hHeld ?_ ?_
  rotate_left
  · intro w' hs
    have s1 := IsRec.k_1 hs; have s2 := IsRec.k_2 hs; have s3 := IsRec.k_3 hs; have s4 := IsRec.k_4 hs; have s5 := IsRec.k_5 hs; have s6 := IsRec.k_6 hs; have s7 := IsRec.k_7 hs; have s8 := IsRec.k_8 hs
    go_simp
    with_reducible rfl
  rotate_left
  · simp only [Act.put, List.setIfInBounds_toArray, List.set_cons_zero, List.set_cons_succ, i64_w, i32_w]
    rfl
  refine take_ (i := 7) (N := some 49) (v := ?_) (a' := ?_) #[true, true, true, true, true, true, true, true, true, false, true, false, true, false, true, false, false, false, false, false, false, false, false, false, false, false, false, false, false, false, false, false] rfl rfl (take_ofW HT_.out HW_.out (by kernel_rfl)) (fun _ _ _ h => h) (Or.inl ⟨by rfl, ?_⟩) hHeld ?_ ?_
  rotate_left
  · intro w' hs
    have s1 := IsRec.k_1 hs; have s2 := IsRec.k_2 hs; have s3 := IsRec.k_3 hs; have s4 := IsRec.k_4 hs; have s5 := IsRec.k_5 hs; have s6 := IsRec.k_6 hs; have s7 := IsRec.k_7 hs; have s8 := IsRec.k_8 hs
    go_simp
    with_reducible rfl
  rotate_left
  · simp only [Act.put, List.setIfInBounds_toArray, List.set_cons_zero, List.set_cons_succ, i64_w, i32_w]
    rfl
  refine take_ (i := 9) (N := some 51) (v := ?_) (a' := ?_) #[true, true, true, true, true, true, true, true, true, true, true, false, true, false, true, false, false, false, false, false, false, false, false, false, false, false, false, false, false, false, false, false] rfl rfl (take_ofW HT_.out HW_.out (by kernel_rfl)) (fun _ _ _ h => h) (Or.inl ⟨by rfl, ?_⟩) hHeld ?_ ?_
  rotate_left
  · intro w' hs
    have s1 := IsRec.k_1 hs; have s2 := IsRec.k_2 hs; have s3 := IsRec.k_3 hs; have s4 := IsRec.k_4 hs; have s5 := IsRec.k_5 hs; have s6 := IsRec.k_6 hs; have s7 := IsRec.k_7 hs; have s8 := IsRec.k_8 hs
    go_simp
    with_reducible rfl
  rotate_left
  · simp only [Act.put, List.setIfInBounds_toArray, List.set_cons_zero, List.set_cons_succ, i64_w, i32_w]
    rfl
  refine take_ (i := 11) (N := some 53) (v := ?_) (a' := ?_) #[true, true, true, true, true, true, true, true, true, true, true, true, true, false, true, false, false, false, false, false, false, false, false, false, false, false, false, false, false, false, false, false] rfl rfl (take_ofW HT_.out HW_.out (by kernel_rfl)) (fun _ _ _ h => h) (Or.inl ⟨by rfl, ?_⟩) hHeld ?_ ?_
  rotate_left
  · intro w' hs
    have s1 := IsRec.k_1 hs; have s2 := IsRec.k_2 hs; have s3 := IsRec.k_3 hs; have s4 := IsRec.k_4 hs; have s5 := IsRec.k_5 hs; have s6 := IsRec.k_6 hs; have s7 := IsRec.k_7 hs; have s8 := IsRec.k_8 hs
    go_simp
    with_reducible rfl
  rotate_left
  · simp only [Act.put, List.setIfInBounds_toArray, List.set_cons_zero, List.set_cons_succ, i64_w, i32_w]
    rfl
  refine take_ (i := 13) (N := some 55) (v := ?_) (a' := ?_) #[true, true, true, true, true, true, true, true, true, true, true, true, true, true, true, false, false, false, false, false, false, false, false, false, false, false, false, false, false, false, false, false] rfl rfl (take_ofW HT_.out HW_.out (by kernel_rfl)) (fun _ _ _ h => h) (Or.inl ⟨by rfl, ?_⟩) hHeld ?_ ?_
  rotate_left
  · intro w' hs
    have s1 := IsRec.k_1 hs; have s2 := IsRec.k_2 hs; have s3 := IsRec.k_3 hs; have s4 := IsRec.k_4 hs; have s5 := IsRec.k_5 hs; have s6 := IsRec.k_6 hs; have s7 := IsRec.k_7 hs; have s8 := IsRec.k_8 hs
    go_simp
    with_reducible rfl
  rotate_left
  · simp only [Act.put, List.setIfInBounds_toArray, List.set_cons_zero, List.set_cons_succ, i64_w, i32_w]
    rfl
  refine take_ (i := 15) (N := some 57) (v := ?_) (a' := ?_) #[true, true, true, true, true, true, true, true, true, true, true, true, true, true, true, true, false, false, false, false, false, false, false, false, false, false, false, false, false, false, false, false] rfl rfl (take_ofW HT_.out HW_.out (by kernel_rfl)) (fun _ _ _ h => h) (Or.inl ⟨by rfl, ?_⟩) hHeld ?_ ?_
  rotate_left
  · intro w' hs
    have s1 := IsRec.k_1 hs; have s2 := IsRec.k_2 hs; have s3 := IsRec.k_3 hs; have s4 := IsRec.k_4 hs; have s5 := IsRec.k_5 hs; have s6 := IsRec.k_6 hs; have s7 := IsRec.k_7 hs; have s8 := IsRec.k_8 hs
    go_simp
    with_reducible rfl
  rotate_left
  · simp only [Act.put, List.setIfInBounds_toArray, List.set_cons_zero, List.set_cons_succ, i64_w, i32_w]
    rfl
  refine pure_ (i := 16) (N := some 58) (v := ?_) (a' := ?_) #[true, true, true, true, true, true, true, true, true, true, true, true, true, true, true, true, true, false, false, false, false, false, false, false, false, false, false, false, false, false, false, false] rfl rfl (any_of HT_.out (by kernel_rfl)) (fun _ _ _ h => h) (Or.inl ⟨by rfl, ?_⟩) ?_ ?_
  rotate_left
  · intro w'
    go_simp
    with_reducible rfl
  rotate_left
  · simp only [Act.put, List.setIfInBounds_toArray, List.set_cons_zero, List.set_cons_succ, i64_w, i32_w]
    rfl
  have zc := IsRec.k_1 RO_.out; have zf := IsRec.free RO_.out 1
  refine one_ (i := 17) (N := none) #[true, true, true, true, true, true, true, true, true, true, true, true, true, true, true, true, true, true, false, false, false, false, false, false, false, false, false, false, false, false, false, false] rfl rfl (one_of HT_.out (by kernel_rfl)) (by decide) (fun K hK => ?_)
  with_reducible refine store_step (w1 := W0.setCell ⟨go, 1, none⟩ (.int .i64 x1)) ?hw ?hd ?hr ?_
  case hw => rfl
  case hd => rfl
  case hr => first | (go_simp; done) | (go_simp; rfl)
  refine hK.out _ _ (IsRec.far RR_.out hne _) (fun hHeld => ?_)
  clear hK K zc zf
  have n0_ := Aside0.mk (IsRec.far RR_.out hne (p := ⟨go, 1, none⟩) (.int .i64 x1))
  have n1_ := Aside0.mk (IsRec.set_1 RO_.out x1)
  have n2_ := Aside0.mk (below_set (j := 1) (v := .int .i64 x1) BB_.out GO_.out)
  have n3_ := Aside0.mk (IsRec.far RZ_.out hnz (p := ⟨go, 1, none⟩) (.int .i64 x1))
  clear RR_ RO_ BB_ RZ_
  generalize W0.setCell ⟨go, 1, none⟩ (.int .i64 x1) = W1 at n0_ n1_ n2_ n3_ hHeld ⊢
  have RR_ := n0_; have RO_ := n1_; have BB_ := n2_; have RZ_ := n3_; clear n0_ n1_ n2_ n3_
  refine pure_ (i := 18) (N := some 59) (v := ?_) (a' := ?_) #[true, true, true, true, true, true, true, true, true, true, true, true, true, true, true, true, true, true, true, false, false, false, false, false, false, false, false, false, false, false, false, false] rfl rfl (any_of HT_.out (by kernel_rfl)) (fun _ _ _ h => h) (Or.inl ⟨by rfl, ?_⟩) ?_ ?_
  rotate_left
  · intro w'
    go_simp
    with_reducible rfl
  rotate_left
  · simp only [Act.put, List.setIfInBounds_toArray, List.set_cons_zero, List.set_cons_succ, i64_w, i32_w]
    rfl
  have zc := IsRec.k_2 RO_.out; have zf := IsRec.free RO_.out 2
  refine one_ (i := 19) (N := none) #[true, true, true, true, true, true, true, true, true, true, true, true, true, true, true, true, true, true, true, true, false, false, false, false, false, false, false, false, false, false, false, false] rfl rfl (one_of HT_.out (by kernel_rfl)) (by decide) (fun K hK => ?_)
  with_reducible refine store_step (w1 := W1.setCell ⟨go, 2, none⟩ (.int .i64 x2)) ?hw ?hd ?hr ?_
  case hw => rfl
  case hd => rfl
  case hr => first | (go_simp; done) | (go_simp; rfl)
  refine hK.out _ _ (IsRec.far RR_.out hne _) (fun hHeld => ?_)
  clear hK K zc zf
  have n0_ := Aside0.mk (IsRec.far RR_.out hne (p := ⟨go, 2, none⟩) (.int .i64 x2))
  have n1_ := Aside0.mk (IsRec.set_2 RO_.out x2)
  have n2_ := Aside0.mk (below_set (j := 2) (v := .int .i64 x2) BB_.out GO_.out)
  have n3_ := Aside0.mk (IsRec.far RZ_.out hnz (p := ⟨go, 2, none⟩) (.int .i64 x2))
  clear RR_ RO_ BB_ RZ_
  generalize W1.setCell ⟨go, 2, none⟩ (.int .i64 x2) = W2 at n0_ n1_ n2_ n3_ hHeld ⊢
  have RR_ := n0_; have RO_ := n1_; have BB_ := n2_; have RZ_ := n3_; clear n0_ n1_ n2_ n3_
  refine pure_ (i := 20) (N := some 60) (v := ?_) (a' := ?_) #[true, true, true, true, true, true, true, true, true, true, true, true, true, true, true, true, true, true, true, true, true, false, false, false, false, false, false, false, false, false, false, false] rfl rfl (any_of HT_.out (by kernel_rfl)) (fun _ _ _ h => h) (Or.inl ⟨by rfl, ?_⟩) ?_ ?_
  rotate_left
  · intro w'
    go_simp
    with_reducible rfl
  rotate_left
  · simp only [Act.put, List.setIfInBounds_toArray, List.set_cons_zero, List.set_cons_succ, i64_w, i32_w]
    rfl
  have zc := IsRec.k_8 RO_.out; have zf := IsRec.free RO_.out 8
  refine one_ (i := 21) (N := none) #[true, true, true, true, true, true, true, true, true, true, true, true, true, true, true, true, true, true, true, true, true, true, false, false, false, false, false, false, false, false, false, false] rfl rfl (one_of HT_.out (by kernel_rfl)) (by decide) (fun K hK => ?_)
  with_reducible refine store_step (w1 := W2.setCell ⟨go, 8, none⟩ (.int .i64 x8)) ?hw ?hd ?hr ?_
  case hw => rfl
  case hd => rfl
  case hr => first | (go_simp; done) | (go_simp; rfl)
  refine hK.out _ _ (IsRec.far RR_.out hne _) (fun hHeld => ?_)
  clear hK K zc zf
  have n0_ := Aside0.mk (IsRec.far RR_.out hne (p := ⟨go, 8, none⟩) (.int .i64 x8))
  have n1_ := Aside0.mk (IsRec.set_8 RO_.out x8)
  have n2_ := Aside0.mk (below_set (j := 8) (v := .int .i64 x8) BB_.out GO_.out)
  have n3_ := Aside0.mk (IsRec.far RZ_.out hnz (p := ⟨go, 8, none⟩) (.int .i64 x8))
  clear RR_ RO_ BB_ RZ_
  generalize W2.setCell ⟨go, 8, none⟩ (.int .i64 x8) = W3 at n0_ n1_ n2_ n3_ hHeld ⊢
  have RR_ := n0_; have RO_ := n1_; have BB_ := n2_; have RZ_ := n3_; clear n0_ n1_ n2_ n3_
  refine pure_ (i := 22) (N := some 61) (v := ?_) (a' := ?_) #[true, true, true, true, true, true, true, true, true, true, true, true, true, true, true, true, true, true, true, true, true, true, true, false, false, false, false, false, false, false, false, false] rfl rfl (any_of HT_.out (by kernel_rfl)) (fun _ _ _ h => h) (Or.inl ⟨by rfl, ?_⟩) ?_ ?_
  rotate_left
  · intro w'
    go_simp
    with_reducible rfl
  rotate_left
  · simp only [Act.put, List.setIfInBounds_toArray, List.set_cons_zero, List.set_cons_succ, i64_w, i32_w]
    rfl
  have zc := IsRec.k_4 RO_.out; have zf := IsRec.free RO_.out 4
  refine one_ (i := 23) (N := none) #[true, true, true, true, true, true, true, true, true, true, true, true, true, true, true, true, true, true, true, true, true, true, true, true, false, false, false, false, false, false, false, false] rfl rfl (one_of HT_.out (by kernel_rfl)) (by decide) (fun K hK => ?_)
  with_reducible refine store_step (w1 := W3.setCell ⟨go, 4, none⟩ (.int .i64 x4)) ?hw ?hd ?hr ?_
  case hw => rfl
  case hd => rfl
  case hr => first | (go_simp; done) | (go_simp; rfl)
  refine hK.out _ _ (IsRec.far RR_.out hne _) (fun hHeld => ?_)
  clear hK K zc zf
  have n0_ := Aside0.mk (IsRec.far RR_.out hne (p := ⟨go, 4, none⟩) (.int .i64 x4))
  have n1_ := Aside0.mk (IsRec.set_4 RO_.out x4)
  have n2_ := Aside0.mk (below_set (j := 4) (v := .int .i64 x4) BB_.out GO_.out)
  have n3_ := Aside0.mk (IsRec.far RZ_.out hnz (p := ⟨go, 4, none⟩) (.int .i64 x4))
  clear RR_ RO_ BB_ RZ_
  generalize W3.setCell ⟨go, 4, none⟩ (.int .i64 x4) = W4 at n0_ n1_ n2_ n3_ hHeld ⊢
  have RR_ := n0_; have RO_ := n1_; have BB_ := n2_; have RZ_ := n3_; clear n0_ n1_ n2_ n3_
  refine pure_ (i := 24) (N := some 62) (v := ?_) (a' := ?_) #[true, true, true, true, true, true, true, true, true, true, true, true, true, true, true, true, true, true, true, true, true, true, true, true, true, false, false, false, false, false, false, false] rfl rfl (any_of HT_.out (by kernel_rfl)) (fun _ _ _ h => h) (Or.inl ⟨by rfl, ?_⟩) ?_ ?_
  rotate_left
  · intro w'
    go_simp
    with_reducible rfl
  rotate_left
  · simp only [Act.put, List.setIfInBounds_toArray, List.set_cons_zero, List.set_cons_succ, i64_w, i32_w]
    rfl
  have zc := IsRec.k_3 RO_.out; have zf := IsRec.free RO_.out 3
  refine one_ (i := 25) (N := none) #[true, true, true, true, true, true, true, true, true, true, true, true, true, true, true, true, true, true, true, true, true, true, true, true, true, true, false, false, false, false, false, false] rfl rfl (one_of HT_.out (by kernel_rfl)) (by decide) (fun K hK => ?_)
  with_reducible refine store_step (w1 := W4.setCell ⟨go, 3, none⟩ (.int .i64 x3)) ?hw ?hd ?hr ?_
  case hw => rfl
  case hd => rfl
  case hr => first | (go_simp; done) | (go_simp; rfl)
  refine hK.out _ _ (IsRec.far RR_.out hne _) (fun hHeld => ?_)
  clear hK K zc zf
  have n0_ := Aside0.mk (IsRec.far RR_.out hne (p := ⟨go, 3, none⟩) (.int .i64 x3))
  have n1_ := Aside0.mk (IsRec.set_3 RO_.out x3)
  have n2_ := Aside0.mk (below_set (j := 3) (v := .int .i64 x3) BB_.out GO_.out)
  have n3_ := Aside0.mk (IsRec.far RZ_.out hnz (p := ⟨go, 3, none⟩) (.int .i64 x3))
  clear RR_ RO_ BB_ RZ_
  generalize W4.setCell ⟨go, 3, none⟩ (.int .i64 x3) = W5 at n0_ n1_ n2_ n3_ hHeld ⊢
  have RR_ := n0_; have RO_ := n1_; have BB_ := n2_; have RZ_ := n3_; clear n0_ n1_ n2_ n3_
  refine pure_ (i := 26) (N := some 63) (v := ?_) (a' := ?_) #[true, true, true, true, true, true, true, true, true, true, true, true, true, true, true, true, true, true, true, true, true, true, true, true, true, true, true, false, false, false, false, false] rfl rfl (any_of HT_.out (by kernel_rfl)) (fun _ _ _ h => h) (Or.inl ⟨by rfl, ?_⟩) ?_ ?_
  rotate_left
  · intro w'
    go_simp
    with_reducible rfl
  rotate_left
  · simp only [Act.put, List.setIfInBounds_toArray, List.set_cons_zero, List.set_cons_succ, i64_w, i32_w]
    rfl
  have zc := IsRec.k_5 RO_.out; have zf := IsRec.free RO_.out 5
  refine one_ (i := 27) (N := none) #[true, true, true, true, true, true, true, true, true, true, true, true, true, true, true, true, true, true, true, true, true, true, true, true, true, true, true, true, false, false, false, false] rfl rfl (one_of HT_.out (by kernel_rfl)) (by decide) (fun K hK => ?_)
  with_reducible refine store_step (w1 := W5.setCell ⟨go, 5, none⟩ (.string kk)) ?hw ?hd ?hr ?_
  case hw => rfl
  case hd => rfl
  case hr => first | (go_simp; done) | (go_simp; rfl)
  refine hK.out _ _ (IsRec.far RR_.out hne _) (fun hHeld => ?_)
  clear hK K zc zf
  have n0_ := Aside0.mk (IsRec.far RR_.out hne (p := ⟨go, 5, none⟩) (.string kk))
  have n1_ := Aside0.mk (IsRec.set_5 RO_.out kk)
  have n2_ := Aside0.mk (below_set (j := 5) (v := .string kk) BB_.out GO_.out)
  have n3_ := Aside0.mk (IsRec.far RZ_.out hnz (p := ⟨go, 5, none⟩) (.string kk))
  clear RR_ RO_ BB_ RZ_
  generalize W5.setCell ⟨go, 5, none⟩ (.string kk) = W6 at n0_ n1_ n2_ n3_ hHeld ⊢
  have RR_ := n0_; have RO_ := n1_; have BB_ := n2_; have RZ_ := n3_; clear n0_ n1_ n2_ n3_
  refine pure_ (i := 28) (N := some 64) (v := ?_) (a' := ?_) #[true, true, true, true, true, true, true, true, true, true, true, true, true, true, true, true, true, true, true, true, true, true, true, true, true, true, true, true, true, false, false, false] rfl rfl (any_of HT_.out (by kernel_rfl)) (fun _ _ _ h => h) (Or.inl ⟨by rfl, ?_⟩) ?_ ?_
  rotate_left
  · intro w'
    go_simp
    with_reducible rfl
  rotate_left
  · simp only [Act.put, List.setIfInBounds_toArray, List.set_cons_zero, List.set_cons_succ, i64_w, i32_w]
    rfl
  have zc := IsRec.k_6 RO_.out; have zf := IsRec.free RO_.out 6
  refine one_ (i := 29) (N := none) #[true, true, true, true, true, true, true, true, true, true, true, true, true, true, true, true, true, true, true, true, true, true, true, true, true, true, true, true, true, true, false, false] rfl rfl (one_of HT_.out (by kernel_rfl)) (by decide) (fun K hK => ?_)
  with_reducible refine store_step (w1 := W6.setCell ⟨go, 6, none⟩ (.string oo)) ?hw ?hd ?hr ?_
  case hw => rfl
  case hd => rfl
  case hr => first | (go_simp; done) | (go_simp; rfl)
  refine hK.out _ _ (IsRec.far RR_.out hne _) (fun hHeld => ?_)
  clear hK K zc zf
  have n0_ := Aside0.mk (IsRec.far RR_.out hne (p := ⟨go, 6, none⟩) (.string oo))
  have n1_ := Aside0.mk (IsRec.set_6 RO_.out oo)
  have n2_ := Aside0.mk (below_set (j := 6) (v := .string oo) BB_.out GO_.out)
  have n3_ := Aside0.mk (IsRec.far RZ_.out hnz (p := ⟨go, 6, none⟩) (.string oo))
  clear RR_ RO_ BB_ RZ_
  generalize W6.setCell ⟨go, 6, none⟩ (.string oo) = W7 at n0_ n1_ n2_ n3_ hHeld ⊢
  have RR_ := n0_; have RO_ := n1_; have BB_ := n2_; have RZ_ := n3_; clear n0_ n1_ n2_ n3_
  refine pure_ (i := 30) (N := some 65) (v := ?_) (a' := ?_) #[true, true, true, true, true, true, true, true, true, true, true, true, true, true, true, true, true, true, true, true, true, true, true, true, true, true, true, true, true, true, true, false] rfl rfl (any_of HT_.out (by kernel_rfl)) (fun _ _ _ h => h) (Or.inl ⟨by rfl, ?_⟩) ?_ ?_
  rotate_left
  · intro w'
    go_simp
    with_reducible rfl
  rotate_left
  · simp only [Act.put, List.setIfInBounds_toArray, List.set_cons_zero, List.set_cons_succ, i64_w, i32_w]
    rfl
  have zc := IsRec.k_7 RO_.out; have zf := IsRec.free RO_.out 7
  refine one_ (i := 31) (N := none) #[true, true, true, true, true, true, true, true, true, true, true, true, true, true, true, true, true, true, true, true, true, true, true, true, true, true, true, true, true, true, true, true] rfl rfl (one_of HT_.out (by kernel_rfl)) (by decide) (fun K hK => ?_)
  with_reducible refine store_step (w1 := W7.setCell ⟨go, 7, none⟩ (.string nn)) ?hw ?hd ?hr ?_
  case hw => rfl
  case hd => rfl
  case hr => first | (go_simp; done) | (go_simp; rfl)
  refine hK.out _ _ (IsRec.far RR_.out hne _) (fun hHeld => ?_)
  clear hK K zc zf
  have n0_ := Aside0.mk (IsRec.far RR_.out hne (p := ⟨go, 7, none⟩) (.string nn))
  have n1_ := Aside0.mk (IsRec.set_7 RO_.out nn)
  have n2_ := Aside0.mk (below_set (j := 7) (v := .string nn) BB_.out GO_.out)
  have n3_ := Aside0.mk (IsRec.far RZ_.out hnz (p := ⟨go, 7, none⟩) (.string nn))
  clear RR_ RO_ BB_ RZ_
  generalize W7.setCell ⟨go, 7, none⟩ (.string nn) = W8 at n0_ n1_ n2_ n3_ hHeld ⊢
  have RR_ := n0_; have RO_ := n1_; have BB_ := n2_; have RZ_ := n3_; clear n0_ n1_ n2_ n3_
  refine done_ (done_of HT_.out (by kernel_rfl)) ?_
  clear hHeld; have zR4 := IsRec.k_4 RR_.out
  by_cases h3 : x4 = 3
  · subst h3
    go_wp2_with fail
    refine (tidy_3 go oo _ (IsRec.k_6 RO_.out) (IsRec.free RO_.out 6)).mono ?_
    rintro e w1 ⟨rfl, rfl⟩
    have n1_ := Aside0.mk (IsRec.set_6 RO_.out ⟨#[]⟩)
    have n2_ := Aside0.mk (below_set (j := 6) (v := .string ⟨#[]⟩) BB_.out GO_.out)
    have n3_ := Aside0.mk (IsRec.far RZ_.out hnz (p := ⟨go, 6, none⟩) (.string ⟨#[]⟩))
    clear RR_ RO_ BB_ RZ_ zR4
    generalize W8.setCell ⟨go, 6, none⟩ (.string ⟨#[]⟩) = W9 at n1_ n2_ n3_ ⊢
    have RO_ := n1_; have BB_ := n2_; have RZ_ := n3_; clear n1_ n2_ n3_; obtain ⟨zO_0, zO_1, zO_2, zO_3, zO_4, zO_5, zO_6, zO_7, zO_8, zO_9, zO_10, zO_11, zO_12⟩ := IsRec.ks RO_.out; obtain ⟨zZ_0, zZ_1, zZ_2, zZ_3, zZ_4, zZ_5, zZ_6, zZ_7, zZ_8, zZ_9, zZ_10, zZ_11, zZ_12⟩ := IsRec.ks RZ_.out; obtain ⟨yZ_0, yZ_1, yZ_2, yZ_3, yZ_4, yZ_5, yZ_6, yZ_7, yZ_8, yZ_9, yZ_10, yZ_11, yZ_12⟩ := IsRec.frees RZ_.out
    go_wp2_with fail
    have ZZ := (IsRec.sets13 RZ_.out 6 x1 x2 x3 3 kk ⟨#[]⟩ nn x8 (.slice none 0 0) (.slice none 0 0) 0 0)
    (try simp only [Exit.inBlock, Exit.then])
    refine bodyPost_ret (results_single rfl (.cell (gr + 1) 33 #[.int .i64 6, .int .i64 x1, .int .i64 x2, .int .i64 x3, .int .i64 3, .string kk, .string ⟨#[]⟩, .string nn, .int .i64 x8, .slice none 0 0, .slice none 0 0, .int .i64 0, .int .i64 0] (0, 0) _ rfl ZZ hu32 rfl (by kernel_rfl) .nil)) rfl ?_
    exact ⟨rfl, (below13 BB_.out GZ_.out)⟩
  · by_cases h4 : x4 = 4
    · subst h4
      go_wp2_with fail
      refine (tidy_4 go nn _ (IsRec.k_7 RO_.out) (IsRec.free RO_.out 7)).mono ?_
      rintro e w1 ⟨rfl, rfl⟩
      have n1_ := Aside0.mk (IsRec.set_7 RO_.out ⟨#[]⟩)
      have n2_ := Aside0.mk (below_set (j := 7) (v := .string ⟨#[]⟩) BB_.out GO_.out)
      have n3_ := Aside0.mk (IsRec.far RZ_.out hnz (p := ⟨go, 7, none⟩) (.string ⟨#[]⟩))
      clear RR_ RO_ BB_ RZ_ zR4
      generalize W8.setCell ⟨go, 7, none⟩ (.string ⟨#[]⟩) = W9 at n1_ n2_ n3_ ⊢
      have RO_ := n1_; have BB_ := n2_; have RZ_ := n3_; clear n1_ n2_ n3_; obtain ⟨zO_0, zO_1, zO_2, zO_3, zO_4, zO_5, zO_6, zO_7, zO_8, zO_9, zO_10, zO_11, zO_12⟩ := IsRec.ks RO_.out; obtain ⟨zZ_0, zZ_1, zZ_2, zZ_3, zZ_4, zZ_5, zZ_6, zZ_7, zZ_8, zZ_9, zZ_10, zZ_11, zZ_12⟩ := IsRec.ks RZ_.out; obtain ⟨yZ_0, yZ_1, yZ_2, yZ_3, yZ_4, yZ_5, yZ_6, yZ_7, yZ_8, yZ_9, yZ_10, yZ_11, yZ_12⟩ := IsRec.frees RZ_.out
      go_wp2_with fail
      have ZZ := (IsRec.sets13 RZ_.out 6 x1 x2 x3 4 kk oo ⟨#[]⟩ x8 (.slice none 0 0) (.slice none 0 0) 0 0)
      (try simp only [Exit.inBlock, Exit.then])
      refine bodyPost_ret (results_single rfl (.cell (gr + 1) 33 #[.int .i64 6, .int .i64 x1, .int .i64 x2, .int .i64 x3, .int .i64 4, .string kk, .string oo, .string ⟨#[]⟩, .int .i64 x8, .slice none 0 0, .slice none 0 0, .int .i64 0, .int .i64 0] (0, 0) _ rfl ZZ hu32 rfl (by kernel_rfl) .nil)) rfl ?_
      exact ⟨rfl, (below13 BB_.out GZ_.out)⟩
    · go_wp2_with fail
      refine (tidy_0 go x4 _ (beq_eq_false_iff_ne.mpr h3) (beq_eq_false_iff_ne.mpr h4)).mono ?_
      rintro e w1 ⟨rfl, rfl⟩
      obtain ⟨zO_0, zO_1, zO_2, zO_3, zO_4, zO_5, zO_6, zO_7, zO_8, zO_9, zO_10, zO_11, zO_12⟩ := IsRec.ks RO_.out; obtain ⟨zZ_0, zZ_1, zZ_2, zZ_3, zZ_4, zZ_5, zZ_6, zZ_7, zZ_8, zZ_9, zZ_10, zZ_11, zZ_12⟩ := IsRec.ks RZ_.out; obtain ⟨yZ_0, yZ_1, yZ_2, yZ_3, yZ_4, yZ_5, yZ_6, yZ_7, yZ_8, yZ_9, yZ_10, yZ_11, yZ_12⟩ := IsRec.frees RZ_.out
      go_wp2_with fail
      have ZZ := (IsRec.sets13 RZ_.out 6 x1 x2 x3 x4 kk oo nn x8 (.slice none 0 0) (.slice none 0 0) 0 0)
      (try simp only [Exit.inBlock, Exit.then])
      refine bodyPost_ret (results_single rfl (.cell (gr + 1) 33 #[.int .i64 6, .int .i64 x1, .int .i64 x2, .int .i64 x3, .int .i64 x4, .string kk, .string oo, .string nn, .int .i64 x8, .slice none 0 0, .slice none 0 0, .int .i64 0, .int .i64 0] (0, 0) _ rfl ZZ hu32 rfl (by kernel_rfl) .nil)) rfl ?_
      exact ⟨(by first | rfl | rw [if_neg h3, if_neg h4]), (below13 BB_.out GZ_.out)⟩
end Go.Proofs.YteoebfiacnploaaGreatDoor.HRec
