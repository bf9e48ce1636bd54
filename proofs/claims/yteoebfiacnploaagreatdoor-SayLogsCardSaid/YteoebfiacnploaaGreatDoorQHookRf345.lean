/- The contract of rec.Clean: an insert, a delete, an update. It proves no statement. -/
import Derived.Test.YteoebfiacnploaaGreatDoorQHookRf6
namespace Go.Proofs.YteoebfiacnploaaGreatDoor.HRec
open Go.RowKit Go.Proofs.YteoebfiacnploaaGreatDoorW.PrintWords Go.Proofs.YteoebfiacnploaaGreatDoorW.PrintLast Go.Proofs.YteoebfiacnploaaGreatDoorW.PrintMore
set_option linter.unusedVariables false
set_option linter.unusedSimpArgs false
def rec_Clean.T9 : Bool × List (List Nat × List Nat) := (true, [([], []), ([0], [0]), ([], []), ([2], [2]), ([], []), ([4], [4]), ([], []), ([6], [6]), ([], []), ([8], [8]), ([], []), ([10], [10]), ([0, 1], []), ([12, 1, 0, 1], [1, 12]), ([0, 1, 2, 3, 12, 13], []), ([14, 3, 13, 0, 1, 2, 3, 12, 13], [3, 14]), ([0, 1, 2, 3, 4, 5, 12, 13, 14, 15], []), ([16, 5, 15, 0, 1, 2, 3, 4, 5, 12, 13, 14, 15], [5, 16]), ([0, 1, 2, 3, 4, 5, 6, 7, 12, 13, 14, 15, 16, 17], []), ([18, 7, 17, 0, 1, 2, 3, 4, 5, 6, 7, 12, 13, 14, 15, 16, 17], [7, 18]), ([0, 1, 2, 3, 4, 5, 6, 7, 8, 9, 12, 13, 14, 15, 16, 17, 18, 19], []), ([20, 9, 19, 0, 1, 2, 3, 4, 5, 6, 7, 8, 9, 12, 13, 14, 15, 16, 17, 18, 19], [9, 20]), ([0, 1, 2, 3, 4, 5, 6, 7, 8, 9, 10, 11, 12, 13, 14, 15, 16, 17, 18, 19, 20, 21], []), ([22, 11, 21, 0, 1, 2, 3, 4, 5, 6, 7, 8, 9, 10, 11, 12, 13, 14, 15, 16, 17, 18, 19, 20, 21], [11, 22])])
def rec_Clean.B9 : List Nat := [0, 1, 0, 4, 0, 16, 0, 64, 0, 256, 0, 1024, 3, 4099, 12303, 28687, 61503, 127039, 258303, 520447, 1045503, 2094079, 4194303, 8388607]
theorem rec_Clean.tab9 : rtab .any (opsOf Tryz.f34 9) = rec_Clean.T9 := by kernel_rfl
theorem rec_Clean.bits9 : waitsOk rec_Clean.T9.2 rec_Clean.B9 = true := by kernel_rfl
set_option maxHeartbeats 32000000 in
set_option maxRecDepth 100000 in
theorem clean_345 (x0 : Int) (OO_ NN_ : ByteArray) (x1 x2 x3 x4 : Int) (kk oo nn : ByteArray) (x8 : Int) (A9 : Option Addr) (c9 : Nat) (l9 : List S144) (A10 : Option Addr) (c10 : Nat) (l10 : List S36) (x11 x12 : Int) (w : World) (hx : (x0 = 3 ∧ OO_ = ⟨#[]⟩ ∧ NN_ = nn) ∨ (x0 = 4 ∧ OO_ = oo ∧ NN_ = ⟨#[]⟩) ∨ (x0 = 5 ∧ OO_ = oo ∧ NN_ = nn)) :
    Calls Tryz.prog 34 #[.agg #[.int .i64 x0, .int .i64 x1, .int .i64 x2, .int .i64 x3, .int .i64 x4, .string kk, .string oo, .string nn, .int .i64 x8, .slice A9 l9.length c9, .slice A10 l10.length c10, .int .i64 x11, .int .i64 x12]] w fun e w' => e = .returned (.agg #[.int .i64 x0, .int .i64 x1, .int .i64 x2, .int .i64 x3, .int .i64 0, .string kk, .string OO_, .string NN_, .int .i64 0, .slice none 0 0, .slice none 0 0, .int .i64 0, .int .i64 0]) ∧ Below w.heap.size w w' := by
  have HX := Aside0.mk hx
  have q1 : (x0 == 1) = false := beq_eq_false_iff_ne.mpr (by omega)
  have q2 : (x0 == 2) = false := beq_eq_false_iff_ne.mpr (by omega)
  have q6 : (x0 == 6) = false := beq_eq_false_iff_ne.mpr (by omega)
  rcases (show x0 = 3 ∨ x0 = 4 ∨ x0 = 5 by omega) with hk | hk | hk
  all_goals
    first | (have q3 : (x0 == 3) = true := by rw [hk]; rfl) | (have q3 : (x0 == 3) = false := by rw [hk]; rfl)
    first | (have q4 : (x0 == 4) = true := by rw [hk]; rfl) | (have q4 : (x0 == 4) = false := by rw [hk]; rfl)
    first | (have q5 : (x0 == 5) = true := by rw [hk]; rfl) | (have q5 : (x0 == 5) = false := by rw [hk]; rfl)
    have HK := Aside0.mk hk; clear hx hk; have hu32 := Tryz.underlying33
    have hs1 : (w.alloc (.cells #[.int .i64 x0, .int .i64 x1, .int .i64 x2, .int .i64 x3, .int .i64 x4, .string kk, .string oo, .string nn, .int .i64 x8, .slice A9 l9.length c9, .slice A10 l10.length c10, .int .i64 x11, .int .i64 x12] 33)).heap.size = w.heap.size + 1 := by simp
    have hs2 : ((w.alloc (.cells #[.int .i64 x0, .int .i64 x1, .int .i64 x2, .int .i64 x3, .int .i64 x4, .string kk, .string oo, .string nn, .int .i64 x8, .slice A9 l9.length c9, .slice A10 l10.length c10, .int .i64 x11, .int .i64 x12] 33)).alloc (.cells #[.int .i64 0, .int .i64 0, .int .i64 0, .int .i64 0, .int .i64 0, .string ⟨#[]⟩, .string ⟨#[]⟩, .string ⟨#[]⟩, .int .i64 0, .slice none 0 0, .slice none 0 0, .int .i64 0, .int .i64 0] 33)).heap.size = w.heap.size + 1 + 1 := by simp
    have Rr : IsRec (((w.alloc (.cells #[.int .i64 x0, .int .i64 x1, .int .i64 x2, .int .i64 x3, .int .i64 x4, .string kk, .string oo, .string nn, .int .i64 x8, .slice A9 l9.length c9, .slice A10 l10.length c10, .int .i64 x11, .int .i64 x12] 33)).alloc (.cells #[.int .i64 0, .int .i64 0, .int .i64 0, .int .i64 0, .int .i64 0, .string ⟨#[]⟩, .string ⟨#[]⟩, .string ⟨#[]⟩, .int .i64 0, .slice none 0 0, .slice none 0 0, .int .i64 0, .int .i64 0] 33)).alloc (.cells #[.int .i64 x0, .int .i64 0, .int .i64 0, .int .i64 0, .int .i64 0, .string ⟨#[]⟩, .string ⟨#[]⟩, .string ⟨#[]⟩, .int .i64 0, .slice none 0 0, .slice none 0 0, .int .i64 0, .int .i64 0] 33)) w.heap.size x0 x1 x2 x3 x4 kk oo nn x8 (.slice A9 l9.length c9) (.slice A10 l10.length c10) x11 x12 := blk_alloc (blk_alloc (blk_new w _) _) _
    have Rz : IsRec (((w.alloc (.cells #[.int .i64 x0, .int .i64 x1, .int .i64 x2, .int .i64 x3, .int .i64 x4, .string kk, .string oo, .string nn, .int .i64 x8, .slice A9 l9.length c9, .slice A10 l10.length c10, .int .i64 x11, .int .i64 x12] 33)).alloc (.cells #[.int .i64 0, .int .i64 0, .int .i64 0, .int .i64 0, .int .i64 0, .string ⟨#[]⟩, .string ⟨#[]⟩, .string ⟨#[]⟩, .int .i64 0, .slice none 0 0, .slice none 0 0, .int .i64 0, .int .i64 0] 33)).alloc (.cells #[.int .i64 x0, .int .i64 0, .int .i64 0, .int .i64 0, .int .i64 0, .string ⟨#[]⟩, .string ⟨#[]⟩, .string ⟨#[]⟩, .int .i64 0, .slice none 0 0, .slice none 0 0, .int .i64 0, .int .i64 0] 33)) (w.heap.size + 1) 0 0 0 0 0 ⟨#[]⟩ ⟨#[]⟩ ⟨#[]⟩ 0 (.slice none 0 0) (.slice none 0 0) 0 0 := by
      have := blk_new (w.alloc (.cells #[.int .i64 x0, .int .i64 x1, .int .i64 x2, .int .i64 x3, .int .i64 x4, .string kk, .string oo, .string nn, .int .i64 x8, .slice A9 l9.length c9, .slice A10 l10.length c10, .int .i64 x11, .int .i64 x12] 33)) (.cells #[.int .i64 0, .int .i64 0, .int .i64 0, .int .i64 0, .int .i64 0, .string ⟨#[]⟩, .string ⟨#[]⟩, .string ⟨#[]⟩, .int .i64 0, .slice none 0 0, .slice none 0 0, .int .i64 0, .int .i64 0] 33)
      rw [hs1] at this
      exact blk_alloc this _
    have Ro : IsRec (((w.alloc (.cells #[.int .i64 x0, .int .i64 x1, .int .i64 x2, .int .i64 x3, .int .i64 x4, .string kk, .string oo, .string nn, .int .i64 x8, .slice A9 l9.length c9, .slice A10 l10.length c10, .int .i64 x11, .int .i64 x12] 33)).alloc (.cells #[.int .i64 0, .int .i64 0, .int .i64 0, .int .i64 0, .int .i64 0, .string ⟨#[]⟩, .string ⟨#[]⟩, .string ⟨#[]⟩, .int .i64 0, .slice none 0 0, .slice none 0 0, .int .i64 0, .int .i64 0] 33)).alloc (.cells #[.int .i64 x0, .int .i64 0, .int .i64 0, .int .i64 0, .int .i64 0, .string ⟨#[]⟩, .string ⟨#[]⟩, .string ⟨#[]⟩, .int .i64 0, .slice none 0 0, .slice none 0 0, .int .i64 0, .int .i64 0] 33)) (w.heap.size + 1 + 1) x0 0 0 0 0 ⟨#[]⟩ ⟨#[]⟩ ⟨#[]⟩ 0 (.slice none 0 0) (.slice none 0 0) 0 0 := by
      have := blk_new ((w.alloc (.cells #[.int .i64 x0, .int .i64 x1, .int .i64 x2, .int .i64 x3, .int .i64 x4, .string kk, .string oo, .string nn, .int .i64 x8, .slice A9 l9.length c9, .slice A10 l10.length c10, .int .i64 x11, .int .i64 x12] 33)).alloc (.cells #[.int .i64 0, .int .i64 0, .int .i64 0, .int .i64 0, .int .i64 0, .string ⟨#[]⟩, .string ⟨#[]⟩, .string ⟨#[]⟩, .int .i64 0, .slice none 0 0, .slice none 0 0, .int .i64 0, .int .i64 0] 33)) (.cells #[.int .i64 x0, .int .i64 0, .int .i64 0, .int .i64 0, .int .i64 0, .string ⟨#[]⟩, .string ⟨#[]⟩, .string ⟨#[]⟩, .int .i64 0, .slice none 0 0, .slice none 0 0, .int .i64 0, .int .i64 0] 33)
      rw [hs2] at this
      exact this
    have hB : Below w.heap.size w (((w.alloc (.cells #[.int .i64 x0, .int .i64 x1, .int .i64 x2, .int .i64 x3, .int .i64 x4, .string kk, .string oo, .string nn, .int .i64 x8, .slice A9 l9.length c9, .slice A10 l10.length c10, .int .i64 x11, .int .i64 x12] 33)).alloc (.cells #[.int .i64 0, .int .i64 0, .int .i64 0, .int .i64 0, .int .i64 0, .string ⟨#[]⟩, .string ⟨#[]⟩, .string ⟨#[]⟩, .int .i64 0, .slice none 0 0, .slice none 0 0, .int .i64 0, .int .i64 0] 33)).alloc (.cells #[.int .i64 x0, .int .i64 0, .int .i64 0, .int .i64 0, .int .i64 0, .string ⟨#[]⟩, .string ⟨#[]⟩, .string ⟨#[]⟩, .int .i64 0, .slice none 0 0, .slice none 0 0, .int .i64 0, .int .i64 0] 33)) := below_alloc (below_alloc (below_alloc (Below.refl _ _) _) _) _
    have RRA := Aside0.mk Rr; have RZA := Aside0.mk Rz; have ROA := Aside0.mk Ro; have BB_ := Aside0.mk hB; clear Rr Rz Ro hB hs1 hs2
    go_enter Tryz.func34, Tryz.ntmps34
    go_wp2_with fail
    generalize (((w.alloc (.cells #[.int .i64 x0, .int .i64 x1, .int .i64 x2, .int .i64 x3, .int .i64 x4, .string kk, .string oo, .string nn, .int .i64 x8, .slice A9 l9.length c9, .slice A10 l10.length c10, .int .i64 x11, .int .i64 x12] 33)).alloc (.cells #[.int .i64 0, .int .i64 0, .int .i64 0, .int .i64 0, .int .i64 0, .string ⟨#[]⟩, .string ⟨#[]⟩, .string ⟨#[]⟩, .int .i64 0, .slice none 0 0, .slice none 0 0, .int .i64 0, .int .i64 0] 33)).alloc (.cells #[.int .i64 x0, .int .i64 0, .int .i64 0, .int .i64 0, .int .i64 0, .string ⟨#[]⟩, .string ⟨#[]⟩, .string ⟨#[]⟩, .int .i64 0, .slice none 0 0, .slice none 0 0, .int .i64 0, .int .i64 0] 33)) = W at *
    obtain ⟨gr, hgr⟩ : ∃ gr, gr = w.heap.size := ⟨_, rfl⟩
    obtain ⟨go, hgo⟩ : ∃ go, go = w.heap.size + 1 + 1 := ⟨_, rfl⟩
    rw [← hgo, ← hgr]
    rw [← hgr] at RRA
    rw [← hgo] at ROA
    rw [← hgr] at RZA
    have hne : gr ≠ go := by omega
    have hnz : gr + 1 ≠ go := by omega
    have GZ_ := Aside0.mk (show w.heap.size ≤ gr + 1 by omega)
    have GO_ := Aside0.mk (show w.heap.size ≤ go by omega)
    have RR_ := RRA; have RO_ := ROA; have RZ_ := RZA; clear RRA ROA RZA; clear hgr hgo
    refine start_ (n := 24) (S := fun w' => IsRec w' gr x0 x1 x2 x3 x4 kk oo nn x8 (.slice A9 l9.length c9) (.slice A10 l10.length c10) x11 x12) (ds := []) #[false, false, false, false, false, false, false, false, false, false, false, false, false, false, false, false, false, false, false, false, false, false, false, false] (by kernel_rfl) rfl rfl (IsRec.drew RR_.out) (fun hHeld => ?_); refine with_tabW rec_Clean.tab9 rec_Clean.bits9 (fun HT_ HW_ => ?_)
    have n0_ := Aside0.mk (IsRec.drew RR_.out); have n1_ := Aside0.mk (IsRec.drew RO_.out); have n2_ := Aside0.mk (below_drew BB_.out); have n3_ := Aside0.mk (IsRec.drew RZ_.out); clear RR_ RO_ BB_ RZ_
    generalize W.drew = W0 at n0_ n1_ n2_ n3_ hHeld ⊢
    have RR_ := n0_; have RO_ := n1_; have BB_ := n2_; have RZ_ := n3_; clear n0_ n1_ n2_ n3_
    refine pure_ (i := 0) (N := some 19) (v := ?_) (a' := ?_) #[true, false, false, false, false, false, false, false, false, false, false, false, false, false, false, false, false, false, false, false, false, false, false, false] rfl rfl (any_of HT_.out (by kernel_rfl)) (fun _ _ _ h => h) (Or.inl ⟨by rfl, ?_⟩) ?_ ?_
    rotate_left
    · intro w'
      go_simp
      with_reducible rfl
    rotate_left
    · simp only [Act.put, List.setIfInBounds_toArray, List.set_cons_zero, List.set_cons_succ, i64_w, i32_w]
      rfl
    refine pure_ (i := 2) (N := some 21) (v := ?_) (a' := ?_) #[true, false, true, false, false, false, false, false, false, false, false, false, false, false, false, false, false, false, false, false, false, false, false, false] rfl rfl (any_of HT_.out (by kernel_rfl)) (fun _ _ _ h => h) (Or.inl ⟨by rfl, ?_⟩) ?_ ?_
    rotate_left
    · intro w'
      go_simp
      with_reducible rfl
    rotate_left
    · simp only [Act.put, List.setIfInBounds_toArray, List.set_cons_zero, List.set_cons_succ, i64_w, i32_w]
      rfl
    refine pure_ (i := 4) (N := some 23) (v := ?_) (a' := ?_) #[true, false, true, false, true, false, false, false, false, false, false, false, false, false, false, false, false, false, false, false, false, false, false, false] rfl rfl (any_of HT_.out (by kernel_rfl)) (fun _ _ _ h => h) (Or.inl ⟨by rfl, ?_⟩) ?_ ?_
    rotate_left
    · intro w'
      go_simp
      with_reducible rfl
    rotate_left
    · simp only [Act.put, List.setIfInBounds_toArray, List.set_cons_zero, List.set_cons_succ, i64_w, i32_w]
      rfl
    refine pure_ (i := 6) (N := some 25) (v := ?_) (a' := ?_) #[true, false, true, false, true, false, true, false, false, false, false, false, false, false, false, false, false, false, false, false, false, false, false, false] rfl rfl (any_of HT_.out (by kernel_rfl)) (fun _ _ _ h => h) (Or.inl ⟨by rfl, ?_⟩) ?_ ?_
    rotate_left
    · intro w'
      go_simp
      with_reducible rfl
    rotate_left
    · simp only [Act.put, List.setIfInBounds_toArray, List.set_cons_zero, List.set_cons_succ, i64_w, i32_w]
      rfl
    refine pure_ (i := 8) (N := some 27) (v := ?_) (a' := ?_) #[true, false, true, false, true, false, true, false, true, false, false, false, false, false, false, false, false, false, false, false, false, false, false, false] rfl rfl (any_of HT_.out (by kernel_rfl)) (fun _ _ _ h => h) (Or.inl ⟨by rfl, ?_⟩) ?_ ?_
    rotate_left
    · intro w'
      go_simp
      with_reducible rfl
    rotate_left
    · simp only [Act.put, List.setIfInBounds_toArray, List.set_cons_zero, List.set_cons_succ, i64_w, i32_w]
      rfl
    refine pure_ (i := 10) (N := some 29) (v := ?_) (a' := ?_) #[true, false, true, false, true, false, true, false, true, false, true, false, false, false, false, false, false, false, false, false, false, false, false, false] rfl rfl (any_of HT_.out (by kernel_rfl)) (fun _ _ _ h => h) (Or.inl ⟨by rfl, ?_⟩) ?_ ?_
    rotate_left
    · intro w'
      go_simp
      with_reducible rfl
    rotate_left
    · simp only [Act.put, List.setIfInBounds_toArray, List.set_cons_zero, List.set_cons_succ, i64_w, i32_w]
      rfl
    refine take_ (i := 1) (N := some 20) (v := ?_) (a' := ?_) #[true, true, true, false, true, false, true, false, true, false, true, false, false, false, false, false, false, false, false, false, false, false, false, false] rfl rfl (take_ofW HT_.out HW_.out (by kernel_rfl)) (fun _ _ _ h => h) (Or.inl ⟨by rfl, ?_⟩) hHeld ?_ ?_
    rotate_left
    · intro w' hs
      have s1 := IsRec.k_1 hs; have s2 := IsRec.k_2 hs; have s3 := IsRec.k_3 hs; have s4 := IsRec.k_4 hs; have s5 := IsRec.k_5 hs; have s6 := IsRec.k_6 hs; have s7 := IsRec.k_7 hs; have s8 := IsRec.k_8 hs
      go_simp
      with_reducible rfl
    rotate_left
    · simp only [Act.put, List.setIfInBounds_toArray, List.set_cons_zero, List.set_cons_succ, i64_w, i32_w]
      rfl
    refine take_ (i := 3) (N := some 22) (v := ?_) (a' := ?_) #[true, true, true, true, true, false, true, false, true, false, true, false, false, false, false, false, false, false, false, false, false, false, false, false] rfl rfl (take_ofW HT_.out HW_.out (by kernel_rfl)) (fun _ _ _ h => h) (Or.inl ⟨by rfl, ?_⟩) hHeld ?_ ?_
    rotate_left
    · intro w' hs
      have s1 := IsRec.k_1 hs; have s2 := IsRec.k_2 hs; have s3 := IsRec.k_3 hs; have s4 := IsRec.k_4 hs; have s5 := IsRec.k_5 hs; have s6 := IsRec.k_6 hs; have s7 := IsRec.k_7 hs; have s8 := IsRec.k_8 hs
      go_simp
      with_reducible rfl
    rotate_left
    · simp only [Act.put, List.setIfInBounds_toArray, List.set_cons_zero, List.set_cons_succ, i64_w, i32_w]
      rfl
    refine take_ (i := 5) (N := some 24) (v := ?_) (a' := ?_) #[true, true, true, true, true, true, true, false, true, false, true, false, false, false, false, false, false, false, false, false, false, false, false, false] rfl rfl (take_ofW HT_.out HW_.out (by kernel_rfl)) (fun _ _ _ h => h) (Or.inl ⟨by rfl, ?_⟩) hHeld ?_ ?_
    rotate_left
    · intro w' hs
      have s1 := IsRec.k_1 hs; have s2 := IsRec.k_2 hs; have s3 := IsRec.k_3 hs; have s4 := IsRec.k_4 hs; have s5 := IsRec.k_5 hs; have s6 := IsRec.k_6 hs; have s7 := IsRec.k_7 hs; have s8 := IsRec.k_8 hs
      go_simp
      with_reducible rfl
    rotate_left
    · simp only [Act.put, List.setIfInBounds_toArray, List.set_cons_zero, List.set_cons_succ, i64_w, i32_w]
      rfl
    refine take_ (i := 7) (N := some 26) (v := ?_) (a' := ?_) #[true, true, true, true, true, true, true, true, true, false, true, false, false, false, false, false, false, false, false, false, false, false, false, false] rfl rfl (take_ofW HT_.out HW_.out (by kernel_rfl)) (fun _ _ _ h => h) (Or.inl ⟨by rfl, ?_⟩) hHeld ?_ ?_
    rotate_left
    · intro w' hs
      have s1 := IsRec.k_1 hs; have s2 := IsRec.k_2 hs; have s3 := IsRec.k_3 hs; have s4 := IsRec.k_4 hs; have s5 := IsRec.k_5 hs; have s6 := IsRec.k_6 hs; have s7 := IsRec.k_7 hs; have s8 := IsRec.k_8 hs
      go_simp
      with_reducible rfl
    rotate_left
    · simp only [Act.put, List.setIfInBounds_toArray, List.set_cons_zero, List.set_cons_succ, i64_w, i32_w]
      rfl
    refine take_ (i := 9) (N := some 28) (v := ?_) (a' := ?_) #[true, true, true, true, true, true, true, true, true, true, true, false, false, false, false, false, false, false, false, false, false, false, false, false] rfl rfl (take_ofW HT_.out HW_.out (by kernel_rfl)) (fun _ _ _ h => h) (Or.inl ⟨by rfl, ?_⟩) hHeld ?_ ?_
    rotate_left
    · intro w' hs
      have s1 := IsRec.k_1 hs; have s2 := IsRec.k_2 hs; have s3 := IsRec.k_3 hs; have s4 := IsRec.k_4 hs; have s5 := IsRec.k_5 hs; have s6 := IsRec.k_6 hs; have s7 := IsRec.k_7 hs; have s8 := IsRec.k_8 hs
      go_simp
      with_reducible rfl
    rotate_left
    · simp only [Act.put, List.setIfInBounds_toArray, List.set_cons_zero, List.set_cons_succ, i64_w, i32_w]
      rfl
    refine take_ (i := 11) (N := some 30) (v := ?_) (a' := ?_) #[true, true, true, true, true, true, true, true, true, true, true, true, false, false, false, false, false, false, false, false, false, false, false, false] rfl rfl (take_ofW HT_.out HW_.out (by kernel_rfl)) (fun _ _ _ h => h) (Or.inl ⟨by rfl, ?_⟩) hHeld ?_ ?_
    rotate_left
    · intro w' hs
      have s1 := IsRec.k_1 hs; have s2 := IsRec.k_2 hs; have s3 := IsRec.k_3 hs; have s4 := IsRec.k_4 hs; have s5 := IsRec.k_5 hs; have s6 := IsRec.k_6 hs; have s7 := IsRec.k_7 hs; have s8 := IsRec.k_8 hs
      go_simp
      with_reducible rfl
    rotate_left
    · simp only [Act.put, List.setIfInBounds_toArray, List.set_cons_zero, List.set_cons_succ, i64_w, i32_w]
      rfl
    refine pure_ (i := 12) (N := some 31) (v := ?_) (a' := ?_) #[true, true, true, true, true, true, true, true, true, true, true, true, true, false, false, false, false, false, false, false, false, false, false, false] rfl rfl (any_of HT_.out (by kernel_rfl)) (fun _ _ _ h => h) (Or.inl ⟨by rfl, ?_⟩) ?_ ?_
    rotate_left
    · intro w'
      go_simp
      with_reducible rfl
    rotate_left
    · simp only [Act.put, List.setIfInBounds_toArray, List.set_cons_zero, List.set_cons_succ, i64_w, i32_w]
      rfl
    have zc := IsRec.k_1 RO_.out; have zf := IsRec.free RO_.out 1
    refine one_ (i := 13) (N := none) #[true, true, true, true, true, true, true, true, true, true, true, true, true, true, false, false, false, false, false, false, false, false, false, false] rfl rfl (one_of HT_.out (by kernel_rfl)) (by decide) (fun K hK => ?_)
    with_reducible refine store_step (w1 := W0.setCell ⟨go, 1, none⟩ (.int .i64 x1)) ?hw ?hd ?hr ?_
    case hw => rfl
    case hd => rfl
    case hr => first | (go_simp; done) | (go_simp; rfl)
    refine hK.out _ _ (IsRec.far RR_.out hne _) (fun hHeld => ?_)
    clear hK K zc zf
    have n0_ := Aside0.mk (IsRec.far RR_.out hne (p := ⟨go, 1, none⟩) (.int .i64 x1))
    have n1_ := Aside0.mk (IsRec.set_1 RO_.out x1)
    have n2_ := Aside0.mk (below_set (j := 1) (v := .int .i64 x1) BB_.out GO_.out)
    have n3_ := Aside0.mk (IsRec.far RZ_.out hnz (p := ⟨go, 1, none⟩) (.int .i64 x1))
    clear RR_ RO_ BB_ RZ_
    generalize W0.setCell ⟨go, 1, none⟩ (.int .i64 x1) = W1 at n0_ n1_ n2_ n3_ hHeld ⊢
    have RR_ := n0_; have RO_ := n1_; have BB_ := n2_; have RZ_ := n3_; clear n0_ n1_ n2_ n3_
    refine pure_ (i := 14) (N := some 32) (v := ?_) (a' := ?_) #[true, true, true, true, true, true, true, true, true, true, true, true, true, true, true, false, false, false, false, false, false, false, false, false] rfl rfl (any_of HT_.out (by kernel_rfl)) (fun _ _ _ h => h) (Or.inl ⟨by rfl, ?_⟩) ?_ ?_
    rotate_left
    · intro w'
      go_simp
      with_reducible rfl
    rotate_left
    · simp only [Act.put, List.setIfInBounds_toArray, List.set_cons_zero, List.set_cons_succ, i64_w, i32_w]
      rfl
    have zc := IsRec.k_2 RO_.out; have zf := IsRec.free RO_.out 2
    refine one_ (i := 15) (N := none) #[true, true, true, true, true, true, true, true, true, true, true, true, true, true, true, true, false, false, false, false, false, false, false, false] rfl rfl (one_of HT_.out (by kernel_rfl)) (by decide) (fun K hK => ?_)
    with_reducible refine store_step (w1 := W1.setCell ⟨go, 2, none⟩ (.int .i64 x2)) ?hw ?hd ?hr ?_
    case hw => rfl
    case hd => rfl
    case hr => first | (go_simp; done) | (go_simp; rfl)
    refine hK.out _ _ (IsRec.far RR_.out hne _) (fun hHeld => ?_)
    clear hK K zc zf
    have n0_ := Aside0.mk (IsRec.far RR_.out hne (p := ⟨go, 2, none⟩) (.int .i64 x2))
    have n1_ := Aside0.mk (IsRec.set_2 RO_.out x2)
    have n2_ := Aside0.mk (below_set (j := 2) (v := .int .i64 x2) BB_.out GO_.out)
    have n3_ := Aside0.mk (IsRec.far RZ_.out hnz (p := ⟨go, 2, none⟩) (.int .i64 x2))
    clear RR_ RO_ BB_ RZ_
    generalize W1.setCell ⟨go, 2, none⟩ (.int .i64 x2) = W2 at n0_ n1_ n2_ n3_ hHeld ⊢
    have RR_ := n0_; have RO_ := n1_; have BB_ := n2_; have RZ_ := n3_; clear n0_ n1_ n2_ n3_
    refine pure_ (i := 16) (N := some 33) (v := ?_) (a' := ?_) #[true, true, true, true, true, true, true, true, true, true, true, true, true, true, true, true, true, false, false, false, false, false, false, false] rfl rfl (any_of HT_.out (by kernel_rfl)) (fun _ _ _ h => h) (Or.inl ⟨by rfl, ?_⟩) ?_ ?_
    rotate_left
    · intro w'
      go_simp
      with_reducible rfl
    rotate_left
    · simp only [Act.put, List.setIfInBounds_toArray, List.set_cons_zero, List.set_cons_succ, i64_w, i32_w]
      rfl
    have zc := IsRec.k_3 RO_.out; have zf := IsRec.free RO_.out 3
    refine one_ (i := 17) (N := none) #[true, true, true, true, true, true, true, true, true, true, true, true, true, true, true, true, true, true, false, false, false, false, false, false] rfl rfl (one_of HT_.out (by kernel_rfl)) (by decide) (fun K hK => ?_)
    with_reducible refine store_step (w1 := W2.setCell ⟨go, 3, none⟩ (.int .i64 x3)) ?hw ?hd ?hr ?_
    case hw => rfl
    case hd => rfl
    case hr => first | (go_simp; done) | (go_simp; rfl)
    refine hK.out _ _ (IsRec.far RR_.out hne _) (fun hHeld => ?_)
    clear hK K zc zf
    have n0_ := Aside0.mk (IsRec.far RR_.out hne (p := ⟨go, 3, none⟩) (.int .i64 x3))
    have n1_ := Aside0.mk (IsRec.set_3 RO_.out x3)
    have n2_ := Aside0.mk (below_set (j := 3) (v := .int .i64 x3) BB_.out GO_.out)
    have n3_ := Aside0.mk (IsRec.far RZ_.out hnz (p := ⟨go, 3, none⟩) (.int .i64 x3))
    clear RR_ RO_ BB_ RZ_
    generalize W2.setCell ⟨go, 3, none⟩ (.int .i64 x3) = W3 at n0_ n1_ n2_ n3_ hHeld ⊢
    have RR_ := n0_; have RO_ := n1_; have BB_ := n2_; have RZ_ := n3_; clear n0_ n1_ n2_ n3_
    refine pure_ (i := 18) (N := some 34) (v := ?_) (a' := ?_) #[true, true, true, true, true, true, true, true, true, true, true, true, true, true, true, true, true, true, true, false, false, false, false, false] rfl rfl (any_of HT_.out (by kernel_rfl)) (fun _ _ _ h => h) (Or.inl ⟨by rfl, ?_⟩) ?_ ?_
    rotate_left
    · intro w'
      go_simp
      with_reducible rfl
    rotate_left
    · simp only [Act.put, List.setIfInBounds_toArray, List.set_cons_zero, List.set_cons_succ, i64_w, i32_w]
      rfl
    have zc := IsRec.k_5 RO_.out; have zf := IsRec.free RO_.out 5
    refine one_ (i := 19) (N := none) #[true, true, true, true, true, true, true, true, true, true, true, true, true, true, true, true, true, true, true, true, false, false, false, false] rfl rfl (one_of HT_.out (by kernel_rfl)) (by decide) (fun K hK => ?_)
    with_reducible refine store_step (w1 := W3.setCell ⟨go, 5, none⟩ (.string kk)) ?hw ?hd ?hr ?_
    case hw => rfl
    case hd => rfl
    case hr => first | (go_simp; done) | (go_simp; rfl)
    refine hK.out _ _ (IsRec.far RR_.out hne _) (fun hHeld => ?_)
    clear hK K zc zf
    have n0_ := Aside0.mk (IsRec.far RR_.out hne (p := ⟨go, 5, none⟩) (.string kk))
    have n1_ := Aside0.mk (IsRec.set_5 RO_.out kk)
    have n2_ := Aside0.mk (below_set (j := 5) (v := .string kk) BB_.out GO_.out)
    have n3_ := Aside0.mk (IsRec.far RZ_.out hnz (p := ⟨go, 5, none⟩) (.string kk))
    clear RR_ RO_ BB_ RZ_
    generalize W3.setCell ⟨go, 5, none⟩ (.string kk) = W4 at n0_ n1_ n2_ n3_ hHeld ⊢
    have RR_ := n0_; have RO_ := n1_; have BB_ := n2_; have RZ_ := n3_; clear n0_ n1_ n2_ n3_
    refine pure_ (i := 20) (N := some 35) (v := ?_) (a' := ?_) #[true, true, true, true, true, true, true, true, true, true, true, true, true, true, true, true, true, true, true, true, true, false, false, false] rfl rfl (any_of HT_.out (by kernel_rfl)) (fun _ _ _ h => h) (Or.inl ⟨by rfl, ?_⟩) ?_ ?_
    rotate_left
    · intro w'
      go_simp
      with_reducible rfl
    rotate_left
    · simp only [Act.put, List.setIfInBounds_toArray, List.set_cons_zero, List.set_cons_succ, i64_w, i32_w]
      rfl
    have zc := IsRec.k_6 RO_.out; have zf := IsRec.free RO_.out 6
    refine one_ (i := 21) (N := none) #[true, true, true, true, true, true, true, true, true, true, true, true, true, true, true, true, true, true, true, true, true, true, false, false] rfl rfl (one_of HT_.out (by kernel_rfl)) (by decide) (fun K hK => ?_)
    with_reducible refine store_step (w1 := W4.setCell ⟨go, 6, none⟩ (.string oo)) ?hw ?hd ?hr ?_
    case hw => rfl
    case hd => rfl
    case hr => first | (go_simp; done) | (go_simp; rfl)
    refine hK.out _ _ (IsRec.far RR_.out hne _) (fun hHeld => ?_)
    clear hK K zc zf
    have n0_ := Aside0.mk (IsRec.far RR_.out hne (p := ⟨go, 6, none⟩) (.string oo))
    have n1_ := Aside0.mk (IsRec.set_6 RO_.out oo)
    have n2_ := Aside0.mk (below_set (j := 6) (v := .string oo) BB_.out GO_.out)
    have n3_ := Aside0.mk (IsRec.far RZ_.out hnz (p := ⟨go, 6, none⟩) (.string oo))
    clear RR_ RO_ BB_ RZ_
    generalize W4.setCell ⟨go, 6, none⟩ (.string oo) = W5 at n0_ n1_ n2_ n3_ hHeld ⊢
    have RR_ := n0_; have RO_ := n1_; have BB_ := n2_; have RZ_ := n3_; clear n0_ n1_ n2_ n3_
    refine pure_ (i := 22) (N := some 36) (v := ?_) (a' := ?_) #[true, true, true, true, true, true, true, true, true, true, true, true, true, true, true, true, true, true, true, true, true, true, true, false] rfl rfl (any_of HT_.out (by kernel_rfl)) (fun _ _ _ h => h) (Or.inl ⟨by rfl, ?_⟩) ?_ ?_
    rotate_left
    · intro w'
      go_simp
      with_reducible rfl
    rotate_left
    · simp only [Act.put, List.setIfInBounds_toArray, List.set_cons_zero, List.set_cons_succ, i64_w, i32_w]
      rfl
    have zc := IsRec.k_7 RO_.out; have zf := IsRec.free RO_.out 7
    refine one_ (i := 23) (N := none) #[true, true, true, true, true, true, true, true, true, true, true, true, true, true, true, true, true, true, true, true, true, true, true, true] rfl rfl (one_of HT_.out (by kernel_rfl)) (by decide) (fun K hK => ?_)
    with_reducible refine store_step (w1 := W5.setCell ⟨go, 7, none⟩ (.string nn)) ?hw ?hd ?hr ?_
    case hw => rfl
    case hd => rfl
    case hr => first | (go_simp; done) | (go_simp; rfl)
    refine hK.out _ _ (IsRec.far RR_.out hne _) (fun hHeld => ?_)
    clear hK K zc zf
    have n0_ := Aside0.mk (IsRec.far RR_.out hne (p := ⟨go, 7, none⟩) (.string nn))
    have n1_ := Aside0.mk (IsRec.set_7 RO_.out nn)
    have n2_ := Aside0.mk (below_set (j := 7) (v := .string nn) BB_.out GO_.out)
    have n3_ := Aside0.mk (IsRec.far RZ_.out hnz (p := ⟨go, 7, none⟩) (.string nn))
    clear RR_ RO_ BB_ RZ_
    generalize W5.setCell ⟨go, 7, none⟩ (.string nn) = W6 at n0_ n1_ n2_ n3_ hHeld ⊢
    have RR_ := n0_; have RO_ := n1_; have BB_ := n2_; have RZ_ := n3_; clear n0_ n1_ n2_ n3_
    refine done_ (done_of HT_.out (by kernel_rfl)) ?_
    clear hHeld; have zR0 := IsRec.k_0 RR_.out; have hk := HK.out; have hx := HX.out; clear HK HX q1 q2 q3 q4 q5 q6
  · subst hk
    obtain ⟨e1, e2⟩ : ⟨#[]⟩ = OO_ ∧ nn = NN_ := by rcases hx with ⟨h, h1, h2⟩ | ⟨h, h1, h2⟩ | ⟨h, h1, h2⟩ <;> first | exact ⟨h1.symm, h2.symm⟩ | exact absurd h (by decide)
    subst e1 e2
    go_wp2_with fail
    refine (tidy_3 go oo _ (IsRec.k_6 RO_.out) (IsRec.free RO_.out 6)).mono ?_
    rintro e w1 ⟨rfl, rfl⟩
    have n1_ := Aside0.mk (IsRec.set_6 RO_.out ⟨#[]⟩)
    have n2_ := Aside0.mk (below_set (j := 6) (v := .string ⟨#[]⟩) BB_.out GO_.out)
    have n3_ := Aside0.mk (IsRec.far RZ_.out hnz (p := ⟨go, 6, none⟩) (.string ⟨#[]⟩))
    clear RR_ RO_ BB_ RZ_ zR0
    generalize W6.setCell ⟨go, 6, none⟩ (.string ⟨#[]⟩) = W9 at n1_ n2_ n3_ ⊢
    have RO_ := n1_; have BB_ := n2_; have RZ_ := n3_; clear n1_ n2_ n3_; obtain ⟨zO_0, zO_1, zO_2, zO_3, zO_4, zO_5, zO_6, zO_7, zO_8, zO_9, zO_10, zO_11, zO_12⟩ := IsRec.ks RO_.out; obtain ⟨zZ_0, zZ_1, zZ_2, zZ_3, zZ_4, zZ_5, zZ_6, zZ_7, zZ_8, zZ_9, zZ_10, zZ_11, zZ_12⟩ := IsRec.ks RZ_.out; obtain ⟨yZ_0, yZ_1, yZ_2, yZ_3, yZ_4, yZ_5, yZ_6, yZ_7, yZ_8, yZ_9, yZ_10, yZ_11, yZ_12⟩ := IsRec.frees RZ_.out
    go_wp2_with fail
    have ZZ := (IsRec.sets13 RZ_.out 3 x1 x2 x3 0 kk ⟨#[]⟩ nn 0 (.slice none 0 0) (.slice none 0 0) 0 0)
    (try simp only [Exit.inBlock, Exit.then])
    refine bodyPost_ret (results_single rfl (.cell (gr + 1) 33 #[.int .i64 3, .int .i64 x1, .int .i64 x2, .int .i64 x3, .int .i64 0, .string kk, .string ⟨#[]⟩, .string nn, .int .i64 0, .slice none 0 0, .slice none 0 0, .int .i64 0, .int .i64 0] (0, 0) _ rfl ZZ hu32 rfl (by kernel_rfl) .nil)) rfl ?_
    exact ⟨rfl, (below13 BB_.out GZ_.out)⟩
  · subst hk
    obtain ⟨e1, e2⟩ : oo = OO_ ∧ ⟨#[]⟩ = NN_ := by rcases hx with ⟨h, h1, h2⟩ | ⟨h, h1, h2⟩ | ⟨h, h1, h2⟩ <;> first | exact ⟨h1.symm, h2.symm⟩ | exact absurd h (by decide)
    subst e1 e2
    go_wp2_with fail
    refine (tidy_4 go nn _ (IsRec.k_7 RO_.out) (IsRec.free RO_.out 7)).mono ?_
    rintro e w1 ⟨rfl, rfl⟩
    have n1_ := Aside0.mk (IsRec.set_7 RO_.out ⟨#[]⟩)
    have n2_ := Aside0.mk (below_set (j := 7) (v := .string ⟨#[]⟩) BB_.out GO_.out)
    have n3_ := Aside0.mk (IsRec.far RZ_.out hnz (p := ⟨go, 7, none⟩) (.string ⟨#[]⟩))
    clear RR_ RO_ BB_ RZ_ zR0
    generalize W6.setCell ⟨go, 7, none⟩ (.string ⟨#[]⟩) = W9 at n1_ n2_ n3_ ⊢
    have RO_ := n1_; have BB_ := n2_; have RZ_ := n3_; clear n1_ n2_ n3_; obtain ⟨zO_0, zO_1, zO_2, zO_3, zO_4, zO_5, zO_6, zO_7, zO_8, zO_9, zO_10, zO_11, zO_12⟩ := IsRec.ks RO_.out; obtain ⟨zZ_0, zZ_1, zZ_2, zZ_3, zZ_4, zZ_5, zZ_6, zZ_7, zZ_8, zZ_9, zZ_10, zZ_11, zZ_12⟩ := IsRec.ks RZ_.out; obtain ⟨yZ_0, yZ_1, yZ_2, yZ_3, yZ_4, yZ_5, yZ_6, yZ_7, yZ_8, yZ_9, yZ_10, yZ_11, yZ_12⟩ := IsRec.frees RZ_.out
    go_wp2_with fail
    have ZZ := (IsRec.sets13 RZ_.out 4 x1 x2 x3 0 kk oo ⟨#[]⟩ 0 (.slice none 0 0) (.slice none 0 0) 0 0)
    (try simp only [Exit.inBlock, Exit.then])
    refine bodyPost_ret (results_single rfl (.cell (gr + 1) 33 #[.int .i64 4, .int .i64 x1, .int .i64 x2, .int .i64 x3, .int .i64 0, .string kk, .string oo, .string ⟨#[]⟩, .int .i64 0, .slice none 0 0, .slice none 0 0, .int .i64 0, .int .i64 0] (0, 0) _ rfl ZZ hu32 rfl (by kernel_rfl) .nil)) rfl ?_
    exact ⟨rfl, (below13 BB_.out GZ_.out)⟩
  · subst hk
    obtain ⟨e1, e2⟩ : oo = OO_ ∧ nn = NN_ := by rcases hx with ⟨h, h1, h2⟩ | ⟨h, h1, h2⟩ | ⟨h, h1, h2⟩ <;> first | exact ⟨h1.symm, h2.symm⟩ | exact absurd h (by decide)
    subst e1 e2
    go_wp2_with fail
    refine (tidy_0 go 5 _ rfl rfl).mono ?_
    rintro e w1 ⟨rfl, rfl⟩
    obtain ⟨zO_0, zO_1, zO_2, zO_3, zO_4, zO_5, zO_6, zO_7, zO_8, zO_9, zO_10, zO_11, zO_12⟩ := IsRec.ks RO_.out; obtain ⟨zZ_0, zZ_1, zZ_2, zZ_3, zZ_4, zZ_5, zZ_6, zZ_7, zZ_8, zZ_9, zZ_10, zZ_11, zZ_12⟩ := IsRec.ks RZ_.out; obtain ⟨yZ_0, yZ_1, yZ_2, yZ_3, yZ_4, yZ_5, yZ_6, yZ_7, yZ_8, yZ_9, yZ_10, yZ_11, yZ_12⟩ := IsRec.frees RZ_.out
    go_wp2_with fail
    have ZZ := (IsRec.sets13 RZ_.out 5 x1 x2 x3 0 kk oo nn 0 (.slice none 0 0) (.slice none 0 0) 0 0)
    (try simp only [Exit.inBlock, Exit.then])
    refine bodyPost_ret (results_single rfl (.cell (gr + 1) 33 #[.int .i64 5, .int .i64 x1, .int .i64 x2, .int .i64 x3, .int .i64 0, .string kk, .string oo, .string nn, .int .i64 0, .slice none 0 0, .slice none 0 0, .int .i64 0, .int .i64 0] (0, 0) _ rfl ZZ hu32 rfl (by kernel_rfl) .nil)) rfl ?_
    exact ⟨rfl, (below13 BB_.out GZ_.out)⟩
theorem clean_3 (x1 x2 x3 x4 : Int) (kk oo nn : ByteArray) (x8 : Int) (A9 : Option Addr) (c9 : Nat) (l9 : List S144) (A10 : Option Addr) (c10 : Nat) (l10 : List S36) (x11 x12 : Int) (w : World) :
    Calls Tryz.prog 34 #[.agg #[.int .i64 3, .int .i64 x1, .int .i64 x2, .int .i64 x3, .int .i64 x4, .string kk, .string oo, .string nn, .int .i64 x8, .slice A9 l9.length c9, .slice A10 l10.length c10, .int .i64 x11, .int .i64 x12]] w fun e w' => e = .returned (.agg #[.int .i64 3, .int .i64 x1, .int .i64 x2, .int .i64 x3, .int .i64 0, .string kk, .string ⟨#[]⟩, .string nn, .int .i64 0, .slice none 0 0, .slice none 0 0, .int .i64 0, .int .i64 0]) ∧ Below w.heap.size w w' := clean_345 3 ⟨#[]⟩ nn x1 x2 x3 x4 kk oo nn x8 A9 c9 l9 A10 c10 l10 x11 x12 w (.inl ⟨rfl, rfl, rfl⟩)
theorem clean_4 (x1 x2 x3 x4 : Int) (kk oo nn : ByteArray) (x8 : Int) (A9 : Option Addr) (c9 : Nat) (l9 : List S144) (A10 : Option Addr) (c10 : Nat) (l10 : List S36) (x11 x12 : Int) (w : World) :
    Calls Tryz.prog 34 #[.agg #[.int .i64 4, .int .i64 x1, .int .i64 x2, .int .i64 x3, .int .i64 x4, .string kk, .string oo, .string nn, .int .i64 x8, .slice A9 l9.length c9, .slice A10 l10.length c10, .int .i64 x11, .int .i64 x12]] w fun e w' => e = .returned (.agg #[.int .i64 4, .int .i64 x1, .int .i64 x2, .int .i64 x3, .int .i64 0, .string kk, .string oo, .string ⟨#[]⟩, .int .i64 0, .slice none 0 0, .slice none 0 0, .int .i64 0, .int .i64 0]) ∧ Below w.heap.size w w' := clean_345 4 oo ⟨#[]⟩ x1 x2 x3 x4 kk oo nn x8 A9 c9 l9 A10 c10 l10 x11 x12 w (.inr (.inl ⟨rfl, rfl, rfl⟩))
theorem clean_5 (x1 x2 x3 x4 : Int) (kk oo nn : ByteArray) (x8 : Int) (A9 : Option Addr) (c9 : Nat) (l9 : List S144) (A10 : Option Addr) (c10 : Nat) (l10 : List S36) (x11 x12 : Int) (w : World) :
    Calls Tryz.prog 34 #[.agg #[.int .i64 5, .int .i64 x1, .int .i64 x2, .int .i64 x3, .int .i64 x4, .string kk, .string oo, .string nn, .int .i64 x8, .slice A9 l9.length c9, .slice A10 l10.length c10, .int .i64 x11, .int .i64 x12]] w fun e w' => e = .returned (.agg #[.int .i64 5, .int .i64 x1, .int .i64 x2, .int .i64 x3, .int .i64 0, .string kk, .string oo, .string nn, .int .i64 0, .slice none 0 0, .slice none 0 0, .int .i64 0, .int .i64 0]) ∧ Below w.heap.size w w' := clean_345 5 oo nn x1 x2 x3 x4 kk oo nn x8 A9 c9 l9 A10 c10 l10 x11 x12 w (.inr (.inr ⟨rfl, rfl, rfl⟩))
end Go.Proofs.YteoebfiacnploaaGreatDoor.HRec
