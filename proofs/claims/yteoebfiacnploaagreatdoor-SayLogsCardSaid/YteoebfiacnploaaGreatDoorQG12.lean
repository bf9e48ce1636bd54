/- Texts of this proof, put together: HookRh, FrecOpen. They prove no statement. -/
import Derived.Test.YteoebfiacnploaaGreatDoorQHookRh1
import Derived.Test.YteoebfiacnploaaGreatDoorQHookRh3
import Derived.Test.YteoebfiacnploaaGreatDoorQHookRh5
import Derived.Test.YteoebfiacnploaaGreatDoorQHookRh7
import Derived.Test.YteoebfiacnploaaGreatDoorQHookRh9
import Derived.Test.YteoebfiacnploaaGreatDoorQFtypes
import Derived.Test.YteoebfiacnploaaGreatDoorQG9
import Derived.Test.YteoebfiacnploaaGreatDoorQG11
import Derived.Test.YteoebfiacnploaaGreatDoorQHookRb
import Derived.Test.YteoebfiacnploaaGreatDoorQHookRh0
import Derived.Test.YteoebfiacnploaaGreatDoorQG4
namespace Go.Proofs.YteoebfiacnploaaGreatDoor.HRec
open Go.RowKit Go.Proofs.YteoebfiacnploaaGreatDoorW.PrintWords Go.Proofs.YteoebfiacnploaaGreatDoorW.PrintLast Go.Proofs.YteoebfiacnploaaGreatDoorW.PrintMore
set_option linter.unusedVariables false
set_option linter.unusedSimpArgs false
theorem rec_Of.calls (a0 : ByteArray) (r1 r2 r3 r4 r5 : Int) (r6 r7 r8 : ByteArray) (r9 : Int) (r10 : List S144) (r11 : List S36) (r12 r13 r14 : Int) (w : World) (h : rec_Of.f a0 = some (r1, r2, r3, r4, r5, r6, r7, r8, r9, r10, r11, r12, r13, r14)) :
    Calls Tryz.prog 58 #[.string a0] w fun e w' => ∃ v9_ v10_ : Value, e = .returned (.tuple #[.agg #[.int .i64 r1, .int .i64 r2, .int .i64 r3, .int .i64 r4, .int .i64 r5, .string r6, .string r7, .string r8, .int .i64 r9, v9_, v10_, .int .i64 r12, .int .i64 r13], .int .i64 r14]) ∧ Kd.R k144 53 w' w.heap.size (fun _ => True) v9_ r10 ∧ Kd.R k36 55 w' w.heap.size (fun _ => True) v10_ r11 ∧ Below w.heap.size w w' := by
  unfold rec_Of.f at h
  replace h := Option.bind_eq_some_iff.mp h
  obtain ⟨⟨x0, a1, a2, a3⟩, ha, h⟩ := h
  by_cases h3 : a3 = 0
  · rw [if_pos h3] at h
    by_cases k12 : x0 = 1 ∨ x0 = 2
    · rw [if_pos k12] at h
      rcases k12 with rfl | rfl
      · exact of_1 a0 a1 a2 a3 r1 r2 r3 r4 r5 r6 r7 r8 r9 r10 r11 r12 r13 r14 w ha h3 h
      · exact of_2 a0 a1 a2 a3 r1 r2 r3 r4 r5 r6 r7 r8 r9 r10 r11 r12 r13 r14 w ha h3 h
    rw [if_neg k12] at h
    by_cases k6 : x0 = 6
    · rw [if_pos k6] at h
      subst k6
      exact of_6 a0 a1 a2 a3 r1 r2 r3 r4 r5 r6 r7 r8 r9 r10 r11 r12 r13 r14 w ha h3 h
    rw [if_neg k6] at h
    by_cases k3 : x0 = 3 ∨ x0 = 4 ∨ x0 = 5
    · rw [if_pos k3] at h
      rcases k3 with rfl | rfl | rfl
      · exact of_3 a0 a1 a2 a3 r1 r2 r3 r4 r5 r6 r7 r8 r9 r10 r11 r12 r13 r14 w ha h3 h
      · exact of_4 a0 a1 a2 a3 r1 r2 r3 r4 r5 r6 r7 r8 r9 r10 r11 r12 r13 r14 w ha h3 h
      · exact of_5 a0 a1 a2 a3 r1 r2 r3 r4 r5 r6 r7 r8 r9 r10 r11 r12 r13 r14 w ha h3 h
    rw [if_neg k3] at h
    by_cases k7 : x0 = 7 ∨ x0 = 8
    · rw [if_pos k7] at h
      rcases k7 with rfl | rfl
      · exact of_7 a0 a1 a2 a3 r1 r2 r3 r4 r5 r6 r7 r8 r9 r10 r11 r12 r13 r14 w ha h3 h
      · exact of_8 a0 a1 a2 a3 r1 r2 r3 r4 r5 r6 r7 r8 r9 r10 r11 r12 r13 r14 w ha h3 h
    rw [if_neg k7] at h
    by_cases k9 : x0 = 9
    · rw [if_pos k9] at h
      subst k9
      exact of_9 a0 a1 a2 a3 r1 r2 r3 r4 r5 r6 r7 r8 r9 r10 r11 r12 r13 r14 w ha h3 h
    rw [if_neg k9] at h
    by_cases k10 : x0 = 10
    · rw [if_pos k10] at h
      subst k10
      exact of_10 a0 a1 a2 a3 r1 r2 r3 r4 r5 r6 r7 r8 r9 r10 r11 r12 r13 r14 w ha h3 h
    rw [if_neg k10] at h
    exact of_0 a0 x0 a1 a2 a3 r1 r2 r3 r4 r5 r6 r7 r8 r9 r10 r11 r12 r13 r14 w ha (by omega) h3 (by subst h3; exact h)
  · rw [if_neg h3] at h
    exact of_err a0 x0 a1 a2 a3 r1 r2 r3 r4 r5 r6 r7 r8 r9 r10 r11 r12 r13 r14 w ha h3 h
end Go.Proofs.YteoebfiacnploaaGreatDoor.HRec
namespace Go.Proofs.YteoebfiacnploaaGreatDoor.HRec
open Go.RowKit Go.Proofs.YteoebfiacnploaaGreatDoor.HRec Go.Proofs.YteoebfiacnploaaGreatDoorW.PrintWords Go.Proofs.YteoebfiacnploaaGreatDoorW.PrintLast Go.Proofs.YteoebfiacnploaaGreatDoorW.PrintMore
attribute [local go_sem] max2_int min2_int max_two min_two max_three min_three max_four min_four   -- for this text's walks alone
set_option linter.unusedVariables false
set_option linter.unusedSimpArgs false
/-! ### rec_Open: function 34 -/
mutual
def rec_Open.j0 : Nat → ByteArray → Int → Bool → Option (Int × Int × Int × Int × Int × ByteArray × ByteArray × ByteArray × Int × (List (S144)) × (List (S36)) × Int × Int × Int × Int)
  | 0, _, _, _ => none
  | k + 1, x0, x1, x18 => if x18 = true then (some (0, 0, 0, 0, 0, (⟨#[]⟩ : ByteArray), (⟨#[]⟩ : ByteArray), (⟨#[]⟩ : ByteArray), 0, ([] : List (S144)), ([] : List (S36)), 0, 0, 0, 6)) else (if 0 ≤ x1 then (if x1 ≤ (x0.size : Int) then (if ((x0.extract (x1 : Int).toNat x0.size).size : Int) < 6 then (some (0, 0, 0, 0, 0, (⟨#[]⟩ : ByteArray), (⟨#[]⟩ : ByteArray), (⟨#[]⟩ : ByteArray), 0, ([] : List (S144)), ([] : List (S36)), 0, 0, 0, 2)) else ((pack_Read.f (x0.extract (x1 : Int).toNat x0.size)).bind fun bt112 => ((pack_Reader_Num.f bt112.1 bt112.2.1 bt112.2.2 2).bind fun bt116 => (if bt116.1 < 1 then (rec_Open.j1 k (x0.extract (x1 : Int).toNat x0.size) bt116.1 true) else (rec_Open.j1 k (x0.extract (x1 : Int).toNat x0.size) bt116.1 (decide (bt116.1 > 4096))))))) else (none)) else (none))
def rec_Open.j1 : Nat → ByteArray → Int → Bool → Option (Int × Int × Int × Int × Int × ByteArray × ByteArray × ByteArray × Int × (List (S144)) × (List (S36)) × Int × Int × Int × Int)
  | 0, _, _, _ => none
  | k + 1, x0, x7, x30 => if x30 = true then (some (0, 0, 0, 0, 0, (⟨#[]⟩ : ByteArray), (⟨#[]⟩ : ByteArray), (⟨#[]⟩ : ByteArray), 0, ([] : List (S144)), ([] : List (S36)), 0, 0, 0, 4)) else (if x7 > (wrap64 ((x0.size : Int) - 6)) then (some (0, 0, 0, 0, 0, (⟨#[]⟩ : ByteArray), (⟨#[]⟩ : ByteArray), (⟨#[]⟩ : ByteArray), 0, ([] : List (S144)), ([] : List (S36)), 0, 0, 0, 2)) else (if 2 ≤ (wrap64 (6 + x7)) then (if (wrap64 (6 + x7)) ≤ (x0.size : Int) then ((sum_Open.f (x0.extract 2 ((wrap64 (6 + x7)) : Int).toNat)).bind fun bt120 => (if bt120.2 = 0 then ((rec_Of.f bt120.1).bind fun bt122 => (if bt122.2.2.2.2.2.2.2.2.2.2.2.2.2 = 0 then (some (bt122.1, bt122.2.1, bt122.2.2.1, bt122.2.2.2.1, bt122.2.2.2.2.1, bt122.2.2.2.2.2.1, bt122.2.2.2.2.2.2.1, bt122.2.2.2.2.2.2.2.1, bt122.2.2.2.2.2.2.2.2.1, bt122.2.2.2.2.2.2.2.2.2.1, bt122.2.2.2.2.2.2.2.2.2.2.1, bt122.2.2.2.2.2.2.2.2.2.2.2.1, bt122.2.2.2.2.2.2.2.2.2.2.2.2.1, wrap64 (6 + x7), 0)) else (some (0, 0, 0, 0, 0, (⟨#[]⟩ : ByteArray), (⟨#[]⟩ : ByteArray), (⟨#[]⟩ : ByteArray), 0, ([] : List (S144)), ([] : List (S36)), 0, 0, 0, bt122.2.2.2.2.2.2.2.2.2.2.2.2.2)))) else (some (0, 0, 0, 0, 0, (⟨#[]⟩ : ByteArray), (⟨#[]⟩ : ByteArray), (⟨#[]⟩ : ByteArray), 0, ([] : List (S144)), ([] : List (S36)), 0, 0, 0, bt120.2)))) else (none)) else (none)))
end
def rec_Open.f (k : Nat) (a0 : ByteArray) (a1 : Int) : Option (Int × Int × Int × Int × Int × ByteArray × ByteArray × ByteArray × Int × (List (S144)) × (List (S36)) × Int × Int × Int × Int) := if a1 < 0 then (rec_Open.j0 k a0 a1 true) else (rec_Open.j0 k a0 a1 (decide (a1 > (a0.size : Int))))
theorem rec_Open.mono_l : ∀ k, (∀ y0 y1 y2, LeO (rec_Open.j0 k y0 y1 y2) (rec_Open.j0 (k + 1) y0 y1 y2)) ∧ (∀ y0 y1 y2, LeO (rec_Open.j1 k y0 y1 y2) (rec_Open.j1 (k + 1) y0 y1 y2))
  | 0 => ⟨fun _ _ _ r h => by simp [rec_Open.j0] at h, fun _ _ _ r h => by simp [rec_Open.j1] at h⟩
  | k + 1 => by
    obtain ⟨ih0, ih1⟩ := rec_Open.mono_l k
    refine ⟨?_, ?_⟩
    · intro y0 y1 y2
      unfold rec_Open.j0
      repeat' first
      | (with_reducible exact ih0 _ _ _)
      | (with_reducible exact ih1 _ _ _)
      | (with_reducible exact LeO.refl _)
      | (with_reducible exact LeO.none _)
      | (with_reducible refine LeO.ite ?_ ?_)
      | (with_reducible refine LeO.bind ?_ (fun _ => ?_))
      | exact ih0 _ _ _
      | exact ih1 _ _ _
      | exact LeO.none _
      | refine LeO.ite ?_ ?_
      | refine LeO.bind ?_ (fun _ => ?_)
    · intro y0 y1 y2
      unfold rec_Open.j1
      repeat' first
      | (with_reducible exact ih0 _ _ _)
      | (with_reducible exact ih1 _ _ _)
      | (with_reducible exact LeO.refl _)
      | (with_reducible exact LeO.none _)
      | (with_reducible refine LeO.ite ?_ ?_)
      | (with_reducible refine LeO.bind ?_ (fun _ => ?_))
      | exact ih0 _ _ _
      | exact ih1 _ _ _
      | exact LeO.none _
      | refine LeO.ite ?_ ?_
      | refine LeO.bind ?_ (fun _ => ?_)
theorem rec_Open.mono : ∀ a0 a1 k, LeO (rec_Open.f k a0 a1) (rec_Open.f (k + 1) a0 a1) := by
  intro a0 a1 k
  obtain ⟨ih0, ih1⟩ := rec_Open.mono_l k
  unfold rec_Open.f
  repeat' first
      | (with_reducible exact ih0 _ _ _)
      | (with_reducible exact ih1 _ _ _)
      | (with_reducible exact LeO.refl _)
      | (with_reducible exact LeO.none _)
      | (with_reducible refine LeO.ite ?_ ?_)
      | (with_reducible refine LeO.bind ?_ (fun _ => ?_))
      | exact ih0 _ _ _
      | exact ih1 _ _ _
      | exact LeO.none _
      | refine LeO.ite ?_ ?_
      | refine LeO.bind ?_ (fun _ => ?_)
set_option maxHeartbeats 8000000 in
set_option maxRecDepth 100000 in
theorem rec_Open.calls (k : Nat) (a0 : ByteArray) (a1 : Int) (r1 : Int) (r2 : Int) (r3 : Int) (r4 : Int) (r5 : Int) (r6 : ByteArray) (r7 : ByteArray) (r8 : ByteArray) (r9 : Int) (r10 : List (S144)) (r11 : List (S36)) (r12 : Int) (r13 : Int) (r14 : Int) (r15 : Int) (w : World) (h : rec_Open.f k a0 a1 = some (r1, r2, r3, r4, r5, r6, r7, r8, r9, r10, r11, r12, r13, r14, r15)) :
    Calls Tryz.prog 30 #[.string a0, .int .i64 a1] w fun e w' => ∃ v9_ v10_ : Value, e = .returned (.tuple #[.agg #[.int .i64 r1, .int .i64 r2, .int .i64 r3, .int .i64 r4, .int .i64 r5, .string r6, .string r7, .string r8, .int .i64 r9, v9_, v10_, .int .i64 r12, .int .i64 r13], .int .i64 r14, .int .i64 r15]) ∧ Kd.R k144 53 w' w.heap.size (fun _ => True) v9_ r10 ∧ Kd.R k36 55 w' w.heap.size (fun _ => True) v10_ r11 ∧ Below w.heap.size w w' := by
  have hu32 := Tryz.underlying33
  have ZZ := Aside0.mk (show IsRec (w.alloc (.cells #[.int .i64 0, .int .i64 0, .int .i64 0, .int .i64 0, .int .i64 0, .string ⟨#[]⟩, .string ⟨#[]⟩, .string ⟨#[]⟩, .int .i64 0, .slice none 0 0, .slice none 0 0, .int .i64 0, .int .i64 0] 33)) w.heap.size 0 0 0 0 0 ⟨#[]⟩ ⟨#[]⟩ ⟨#[]⟩ 0 (.slice none 0 0) (.slice none 0 0) 0 0 from blk_new w _)
  have BB := Aside0.mk (below_alloc (Below.refl w.heap.size w) (.cells #[.int .i64 0, .int .i64 0, .int .i64 0, .int .i64 0, .int .i64 0, .string ⟨#[]⟩, .string ⟨#[]⟩, .string ⟨#[]⟩, .int .i64 0, .slice none 0 0, .slice none 0 0, .int .i64 0, .int .i64 0] 33))
  obtain ⟨W1, hW1⟩ : ∃ W1, W1 = w.alloc (.cells #[.int .i64 0, .int .i64 0, .int .i64 0, .int .i64 0, .int .i64 0, .string ⟨#[]⟩, .string ⟨#[]⟩, .string ⟨#[]⟩, .int .i64 0, .slice none 0 0, .slice none 0 0, .int .i64 0, .int .i64 0] 33) := ⟨_, rfl⟩
  rw [← hW1] at ZZ BB
  replace h : ∃ kq b, b = (if a1 < 0 then true else decide (a1 > (a0.size : Int))) ∧ rec_Open.j0 kq a0 a1 b = some (r1, r2, r3, r4, r5, r6, r7, r8, r9, r10, r11, r12, r13, r14, r15) := by
    unfold rec_Open.f at h
    by_cases c : a1 < 0
    · rw [if_pos c] at h
      exact ⟨k, true, by rw [if_pos c], h⟩
    · rw [if_neg c] at h
      exact ⟨k, _, by rw [if_neg c], h⟩
  obtain ⟨kq, b, hb, h⟩ := h
  cases kq with
  | zero => exact absurd h (by simp [rec_Open.j0])
  | succ kq =>
    rw [rec_Open.j0] at h
    by_cases c1 : a1 < 0 ∨ a1 > (a0.size : Int)
    · have hbt : b = true := by
        rw [hb]
        by_cases c : a1 < 0
        · rw [if_pos c]
        · rw [if_neg c, decide_eq_true (by omega)]
      rw [if_pos hbt] at h
      clear hb hbt
      simp only [Option.some.injEq, Prod.mk.injEq] at h
      obtain ⟨rfl, rfl, rfl, rfl, rfl, rfl, rfl, rfl, rfl, rfl, rfl, rfl, rfl, rfl, rfl⟩ := h
      by_cases c : a1 < 0
      · have b1 : decide (a1 < 0) = true := decide_eq_true c
        clear c c1
        go_enter Tryz.func30, Tryz.ntmps30
        go_upto_region 1 with fail
        rw [← hW1]
        clear hW1
        obtain ⟨z0, z1, z2, z3, z4, z5, z6, z7, z8, z9, z10, z11, z12, z13, z14, z15, z16, z17, z18, z19, z20, z21, z22, z23, z24, z25⟩ := IsRec.all13 ZZ.out
        go_wp2_with fail
        (try simp only [Exit.inBlock, Exit.then])
        refine bodyPost_ret (results_ctt rfl _ _ w.heap.size 33 #[.int .i64 0, .int .i64 0, .int .i64 0, .int .i64 0, .int .i64 0, .string ⟨#[]⟩, .string ⟨#[]⟩, .string ⟨#[]⟩, .int .i64 0, .slice none 0 0, .slice none 0 0, .int .i64 0, .int .i64 0] (0, 0) _ rfl (IsRec.sets13 ZZ.out 0 0 0 0 0 ⟨#[]⟩ ⟨#[]⟩ ⟨#[]⟩ 0 (.slice none 0 0) (.slice none 0 0) 0 0) hu32 rfl (by kernel_rfl)) rfl ?_
        exact ⟨_, _, rfl, Kd.R_nil _ _ _ _ _, Kd.R_nil _ _ _ _ _, below13 BB.out (Nat.le_refl _)⟩
      · have b1 : decide (a1 < 0) = false := decide_eq_false c
        have b2 : decide (a1 > (a0.size : Int)) = true := decide_eq_true (by omega)
        have b3 : decide ((a0.size : Int) < a1) = true := decide_eq_true (by omega)
        clear c c1
        go_enter Tryz.func30, Tryz.ntmps30
        go_upto_region 1 with fail
        rw [← hW1]
        clear hW1
        obtain ⟨z0, z1, z2, z3, z4, z5, z6, z7, z8, z9, z10, z11, z12, z13, z14, z15, z16, z17, z18, z19, z20, z21, z22, z23, z24, z25⟩ := IsRec.all13 ZZ.out
        go_wp2_with fail
        (try simp only [Exit.inBlock, Exit.then])
        refine bodyPost_ret (results_ctt rfl _ _ w.heap.size 33 #[.int .i64 0, .int .i64 0, .int .i64 0, .int .i64 0, .int .i64 0, .string ⟨#[]⟩, .string ⟨#[]⟩, .string ⟨#[]⟩, .int .i64 0, .slice none 0 0, .slice none 0 0, .int .i64 0, .int .i64 0] (0, 0) _ rfl (IsRec.sets13 ZZ.out 0 0 0 0 0 ⟨#[]⟩ ⟨#[]⟩ ⟨#[]⟩ 0 (.slice none 0 0) (.slice none 0 0) 0 0) hu32 rfl (by kernel_rfl)) rfl ?_
        exact ⟨_, _, rfl, Kd.R_nil _ _ _ _ _, Kd.R_nil _ _ _ _ _, below13 BB.out (Nat.le_refl _)⟩
    · have hbf : b = false := by
        rw [hb, if_neg (by omega), decide_eq_false (by omega)]
      rw [if_neg (by rw [hbf]; decide), if_pos (by omega), if_pos (by omega)] at h
      have b1 : decide (a1 < 0) = false := decide_eq_false (by omega)
      have b2 : decide (a1 > (a0.size : Int)) = false := decide_eq_false (by omega)
      have b3 : decide ((a0.size : Int) < a1) = false := decide_eq_false (by omega)
      have d1 : 0 ≤ a1 := by omega
      have d2 : a1 ≤ (a0.size : Int) := by omega
      have e1 : decide (0 ≤ a1) = true := decide_eq_true d1
      have e2 : decide (a1 ≤ (a0.size : Int)) = true := decide_eq_true d2
      have hTs : (a0.extract a1.toNat a0.size).size = a0.size - a1.toNat := by simp
      clear hb hbf c1
      go_enter Tryz.func30, Tryz.ntmps30
      go_upto_region 1 with fail
      rw [← hW1]
      clear hW1
      go_upto_region 4 with fail
      clear b1 b2 b3 e1 e2 d1 d2 hTs
      generalize a0.extract a1.toNat a0.size = T at h ⊢
      by_cases c2 : (T.size : Int) < 6
      · rw [if_pos c2] at h
        simp only [Option.some.injEq, Prod.mk.injEq] at h
        obtain ⟨rfl, rfl, rfl, rfl, rfl, rfl, rfl, rfl, rfl, rfl, rfl, rfl, rfl, rfl, rfl⟩ := h
        have b4 : decide ((T.size : Int) < 6) = true := decide_eq_true c2
        clear c2
        obtain ⟨z0, z1, z2, z3, z4, z5, z6, z7, z8, z9, z10, z11, z12, z13, z14, z15, z16, z17, z18, z19, z20, z21, z22, z23, z24, z25⟩ := IsRec.all13 ZZ.out
        go_wp2_with fail
        (try simp only [Exit.inBlock, Exit.then])
        refine bodyPost_ret (results_ctt rfl _ _ w.heap.size 33 #[.int .i64 0, .int .i64 0, .int .i64 0, .int .i64 0, .int .i64 0, .string ⟨#[]⟩, .string ⟨#[]⟩, .string ⟨#[]⟩, .int .i64 0, .slice none 0 0, .slice none 0 0, .int .i64 0, .int .i64 0] (0, 0) _ rfl (IsRec.sets13 ZZ.out 0 0 0 0 0 ⟨#[]⟩ ⟨#[]⟩ ⟨#[]⟩ 0 (.slice none 0 0) (.slice none 0 0) 0 0) hu32 rfl (by kernel_rfl)) rfl ?_
        exact ⟨_, _, rfl, Kd.R_nil _ _ _ _ _, Kd.R_nil _ _ _ _ _, below13 BB.out (Nat.le_refl _)⟩
      · rw [if_neg c2] at h
        have b4 : decide ((T.size : Int) < 6) = false := decide_eq_false c2
        clear c2
        obtain ⟨⟨t1, t2, t3⟩, A1, h⟩ := Option.bind_eq_some_iff.mp h
        obtain ⟨⟨n, n1, n2, n3⟩, A2, h⟩ := Option.bind_eq_some_iff.mp h
        dsimp only at A2 h
        have AA := Aside0.mk A1; have AB := Aside0.mk A2; have HH := Aside0.mk h; clear A1 A2 h
        go_wp2_with fail
        refine (pack_Read.calls T t1 t2 t3 w W1 BB.out AA.out).mono ?_
        rintro e w2 ⟨g, rfl, hi, hb, hb2⟩
        have I2 := Aside0.mk hi; have B2 := Aside0.mk hb; have Z2 := Aside0.mk (IsRec.below ZZ.out hb2); clear hi hb hb2 AA ZZ BB b4
        go_wp2_with fail
        refine (pack_Reader_Num.calls g t1 t2 t3 2 n n1 n2 n3 w w2 I2.out B2.out AB.out).mono ?_
        rintro e w3 ⟨rfl, hi, hb, hk⟩
        have BB := Aside0.mk hb
        have ZZ := Aside0.mk (IsRec.keep Z2.out hk (fun e => IsS124.ne_blk I2.out Z2.out (by decide) e.symm))
        clear hi hb hk I2 B2 Z2 AB
        obtain ⟨kq1, b, hb, h⟩ : ∃ kq b, b = (if n < 1 then true else decide (n > 4096)) ∧ rec_Open.j1 kq T n b = some (r1, r2, r3, r4, r5, r6, r7, r8, r9, r10, r11, r12, r13, r14, r15) := by
          have h := HH.out
          by_cases c : n < 1
          · rw [if_pos c] at h
            exact ⟨kq, true, by rw [if_pos c], h⟩
          · rw [if_neg c] at h
            exact ⟨kq, _, by rw [if_neg c], h⟩
        clear HH
        cases kq1 with
        | zero => exact absurd h (by simp [rec_Open.j1])
        | succ kq1 =>
          rw [rec_Open.j1] at h
          by_cases c1 : n < 1 ∨ n > 4096
          · have hbt : b = true := by
              rw [hb]
              by_cases c : n < 1
              · rw [if_pos c]
              · rw [if_neg c, decide_eq_true (by omega)]
            rw [if_pos hbt] at h
            clear hb hbt
            simp only [Option.some.injEq, Prod.mk.injEq] at h
            obtain ⟨rfl, rfl, rfl, rfl, rfl, rfl, rfl, rfl, rfl, rfl, rfl, rfl, rfl, rfl, rfl⟩ := h
            by_cases c : n < 1
            · have b1 : decide (n < 1) = true := decide_eq_true c
              clear c c1
              obtain ⟨z0, z1, z2, z3, z4, z5, z6, z7, z8, z9, z10, z11, z12, z13, z14, z15, z16, z17, z18, z19, z20, z21, z22, z23, z24, z25⟩ := IsRec.all13 ZZ.out
              go_wp2_with fail
              (try simp only [Exit.inBlock, Exit.then])
              refine bodyPost_ret (results_ctt rfl _ _ w.heap.size 33 #[.int .i64 0, .int .i64 0, .int .i64 0, .int .i64 0, .int .i64 0, .string ⟨#[]⟩, .string ⟨#[]⟩, .string ⟨#[]⟩, .int .i64 0, .slice none 0 0, .slice none 0 0, .int .i64 0, .int .i64 0] (0, 0) _ rfl (IsRec.sets13 ZZ.out 0 0 0 0 0 ⟨#[]⟩ ⟨#[]⟩ ⟨#[]⟩ 0 (.slice none 0 0) (.slice none 0 0) 0 0) hu32 rfl (by kernel_rfl)) rfl ?_
              exact ⟨_, _, rfl, Kd.R_nil _ _ _ _ _, Kd.R_nil _ _ _ _ _, below13 BB.out (Nat.le_refl _)⟩
            · have b1 : decide (n < 1) = false := decide_eq_false c
              have b3 : decide (4096 < n) = true := decide_eq_true (by omega)
              clear c c1
              obtain ⟨z0, z1, z2, z3, z4, z5, z6, z7, z8, z9, z10, z11, z12, z13, z14, z15, z16, z17, z18, z19, z20, z21, z22, z23, z24, z25⟩ := IsRec.all13 ZZ.out
              go_wp2_with fail
              (try simp only [Exit.inBlock, Exit.then])
              refine bodyPost_ret (results_ctt rfl _ _ w.heap.size 33 #[.int .i64 0, .int .i64 0, .int .i64 0, .int .i64 0, .int .i64 0, .string ⟨#[]⟩, .string ⟨#[]⟩, .string ⟨#[]⟩, .int .i64 0, .slice none 0 0, .slice none 0 0, .int .i64 0, .int .i64 0] (0, 0) _ rfl (IsRec.sets13 ZZ.out 0 0 0 0 0 ⟨#[]⟩ ⟨#[]⟩ ⟨#[]⟩ 0 (.slice none 0 0) (.slice none 0 0) 0 0) hu32 rfl (by kernel_rfl)) rfl ?_
              exact ⟨_, _, rfl, Kd.R_nil _ _ _ _ _, Kd.R_nil _ _ _ _ _, below13 BB.out (Nat.le_refl _)⟩
          · have hbf : b = false := by
              rw [hb, if_neg (by omega), decide_eq_false (by omega)]
            rw [if_neg (by rw [hbf]; decide)] at h
            have b1 : decide (n < 1) = false := decide_eq_false (by omega)
            have b3 : decide (4096 < n) = false := decide_eq_false (by omega)
            have hw : wrap64 (6 + n) = 6 + n := by unfold wrap64; omega
            have c3 := Aside0.mk (show 1 ≤ n ∧ n ≤ 4096 by omega)
            clear hb hbf c1
            by_cases c2 : n > wrap64 ((T.size : Int) - 6)
            · rw [if_pos c2] at h
              simp only [Option.some.injEq, Prod.mk.injEq] at h
              obtain ⟨rfl, rfl, rfl, rfl, rfl, rfl, rfl, rfl, rfl, rfl, rfl, rfl, rfl, rfl, rfl⟩ := h
              have b4 : decide (wrap64 ((T.size : Int) - 6) < n) = true := decide_eq_true c2
              clear c2
              obtain ⟨z0, z1, z2, z3, z4, z5, z6, z7, z8, z9, z10, z11, z12, z13, z14, z15, z16, z17, z18, z19, z20, z21, z22, z23, z24, z25⟩ := IsRec.all13 ZZ.out
              go_wp2_with fail
              (try simp only [Exit.inBlock, Exit.then])
              refine bodyPost_ret (results_ctt rfl _ _ w.heap.size 33 #[.int .i64 0, .int .i64 0, .int .i64 0, .int .i64 0, .int .i64 0, .string ⟨#[]⟩, .string ⟨#[]⟩, .string ⟨#[]⟩, .int .i64 0, .slice none 0 0, .slice none 0 0, .int .i64 0, .int .i64 0] (0, 0) _ rfl (IsRec.sets13 ZZ.out 0 0 0 0 0 ⟨#[]⟩ ⟨#[]⟩ ⟨#[]⟩ 0 (.slice none 0 0) (.slice none 0 0) 0 0) hu32 rfl (by kernel_rfl)) rfl ?_
              exact ⟨_, _, rfl, Kd.R_nil _ _ _ _ _, Kd.R_nil _ _ _ _ _, below13 BB.out (Nat.le_refl _)⟩
            · rw [if_neg c2, hw, if_pos (by have := c3.out; omega)] at h
              have b4 : decide (wrap64 ((T.size : Int) - 6) < n) = false := decide_eq_false c2
              clear c2
              by_cases c5 : 6 + n ≤ (T.size : Int)
              · rw [if_pos c5] at h
                have d1 : 2 ≤ 6 + n := by have := c3.out; omega
                have d0 : (0 : Int) ≤ 2 := by omega
                obtain ⟨⟨bs, be⟩, A1, h⟩ := Option.bind_eq_some_iff.mp h
                dsimp only at h
                have AA := Aside0.mk (sum_Open.calls _ bs be w3 A1); have HH := Aside0.mk h; clear A1 h
                go_wp2_with fail
                refine AA.out.mono ?_
                rintro e w4 ⟨rfl, hb⟩
                have ZZ := Aside0.mk (IsRec.below ZZ.out hb); have BB := Aside0.mk (below_step BB.out hb); have h := HH.out; clear hb AA HH b1 b3 b4 c5 d1 d0
                by_cases c6 : be = 0
                · rw [if_pos c6] at h
                  subst c6
                  obtain ⟨⟨y1, y2, y3, y4, y5, y6, y7, y8, y9, y10, y11, y12, y13, y14⟩, A1, h⟩ := Option.bind_eq_some_iff.mp h
                  dsimp only at h
                  have AA := Aside0.mk (rec_Of.calls bs y1 y2 y3 y4 y5 y6 y7 y8 y9 y10 y11 y12 y13 y14 w4 A1); have HH := Aside0.mk h; clear A1 h
                  go_wp2_with fail
                  refine AA.out.mono ?_
                  rintro e w5 ⟨v9, v10, rfl, q9, q10, hb⟩
                  obtain ⟨A9, c9, rfl⟩ := Kd.R_slice q9
                  obtain ⟨A10, c10, rfl⟩ := Kd.R_slice q10
                  have h := HH.out
                  obtain ⟨O, hO⟩ : ∃ O : Obj, O = .cells #[.int .i64 y1, .int .i64 y2, .int .i64 y3, .int .i64 y4, .int .i64 y5, .string y6, .string y7, .string y8, .int .i64 y9, .slice A9 y10.length c9, .slice A10 y11.length c10, .int .i64 y12, .int .i64 y13] 33 := ⟨_, rfl⟩
                  have hb' := below_alloc hb O
                  have hlt : w.heap.size < w4.heap.size := blk_lt ZZ.out
                  have ZZ := Aside0.mk (IsRec.below ZZ.out hb')
                  have BB := Aside0.mk (below_step BB.out hb')
                  have OO := blk_new w5 O; clear HH AA
                  by_cases c7 : y14 = 0
                  · rw [if_pos c7] at h
                    subst c7
                    simp only [Option.some.injEq, Prod.mk.injEq] at h
                    obtain ⟨rfl, rfl, rfl, rfl, rfl, rfl, rfl, rfl, rfl, rfl, rfl, rfl, rfl, rfl, rfl⟩ := h
                    have NN := Aside0.mk (show Rows2 w5 w4.heap.size w5.heap.size (.slice A9 y10.length c9) y10 (.slice A10 y11.length c10) y11 from ⟨Kd.R_mono (Kd.R_bound q9) (fun k hz => ⟨hz.2.1, hz.2.2.1⟩), Kd.R_mono (Kd.R_bound q10) (fun k hz => ⟨hz.2.1, hz.2.2.1⟩), Nat.le_refl _⟩)
                    have N6 := Aside0.mk (Rows2.below NN.out (below_alloc (Below.refl _ _) O)); have HG := Aside0.mk hlt
                    have RO : IsRec (w5.alloc O) w5.heap.size y1 y2 y3 y4 y5 y6 y7 y8 y9 (.slice A9 y10.length c9) (.slice A10 y11.length c10) y12 y13 := by
                      rw [hO]
                      exact blk_new w5 _
                    obtain ⟨a0, a1, a2, a3, a4, a5, a6, a7, a8, a9, a10, a11, a12, a13, a14, a15, a16, a17, a18, a19, a20, a21, a22, a23, a24, a25⟩ := IsRec.all13 RO
                    obtain ⟨z0, z1, z2, z3, z4, z5, z6, z7, z8, z9, z10, z11, z12, z13, z14, z15, z16, z17, z18, z19, z20, z21, z22, z23, z24, z25⟩ := IsRec.all13 ZZ.out
                    clear q9 q10 hb hb' OO RO NN
                    go_upto_region 15 with fail
                    rw [← hO]
                    clear hO
                    go_wp2_with fail
                    (try simp only [Exit.inBlock, Exit.then])
                    have QQ := Rows2.done (b := w.heap.size) (Rows2.sets13 N6.out HG.out (.int .i64 y1) (.int .i64 y2) (.int .i64 y3) (.int .i64 y4) (.int .i64 y5) (.string y6) (.string y7) (.string y8) (.int .i64 y9) (.slice A9 y10.length c9) (.slice A10 y11.length c10) (.int .i64 y12) (.int .i64 y13)) (Nat.le_of_lt HG.out)
                    refine bodyPost_ret (results_ctt rfl _ _ w.heap.size 33 #[.int .i64 y1, .int .i64 y2, .int .i64 y3, .int .i64 y4, .int .i64 y5, .string y6, .string y7, .string y8, .int .i64 y9, .slice A9 y10.length c9, .slice A10 y11.length c10, .int .i64 y12, .int .i64 y13] (0, 0) _ rfl (IsRec.sets13 ZZ.out y1 y2 y3 y4 y5 y6 y7 y8 y9 (.slice A9 y10.length c9) (.slice A10 y11.length c10) y12 y13) hu32 rfl (by kernel_rfl)) rfl ?_
                    exact ⟨_, _, by first | rfl | (rw [hw]; rfl), QQ.1, QQ.2, below13 BB.out (Nat.le_refl _)⟩
                  · rw [if_neg c7] at h
                    simp only [Option.some.injEq, Prod.mk.injEq] at h
                    obtain ⟨rfl, rfl, rfl, rfl, rfl, rfl, rfl, rfl, rfl, rfl, rfl, rfl, rfl, rfl, rfl⟩ := h
                    have b5 : (y14 == 0) = false := beq_eq_false_iff_ne.mpr c7
                    have b6 : (y14 != 0) = true := bne_iff_ne.mpr c7
                    clear q9 q10 hb hb' OO c7 hlt
                    go_upto_region 15 with fail
                    rw [← hO]
                    clear hO
                    obtain ⟨z0, z1, z2, z3, z4, z5, z6, z7, z8, z9, z10, z11, z12, z13, z14, z15, z16, z17, z18, z19, z20, z21, z22, z23, z24, z25⟩ := IsRec.all13 ZZ.out
                    go_wp2_with fail
                    (try simp only [Exit.inBlock, Exit.then])
                    refine bodyPost_ret (results_ctt rfl _ _ w.heap.size 33 #[.int .i64 0, .int .i64 0, .int .i64 0, .int .i64 0, .int .i64 0, .string ⟨#[]⟩, .string ⟨#[]⟩, .string ⟨#[]⟩, .int .i64 0, .slice none 0 0, .slice none 0 0, .int .i64 0, .int .i64 0] (0, 0) _ rfl (IsRec.sets13 ZZ.out 0 0 0 0 0 ⟨#[]⟩ ⟨#[]⟩ ⟨#[]⟩ 0 (.slice none 0 0) (.slice none 0 0) 0 0) hu32 rfl (by kernel_rfl)) rfl ?_
                    exact ⟨_, _, rfl, Kd.R_nil _ _ _ _ _, Kd.R_nil _ _ _ _ _, below13 BB.out (Nat.le_refl _)⟩
                · rw [if_neg c6] at h
                  simp only [Option.some.injEq, Prod.mk.injEq] at h
                  obtain ⟨rfl, rfl, rfl, rfl, rfl, rfl, rfl, rfl, rfl, rfl, rfl, rfl, rfl, rfl, rfl⟩ := h
                  have b5 : (be == 0) = false := beq_eq_false_iff_ne.mpr c6
                  have b6 : (be != 0) = true := bne_iff_ne.mpr c6
                  clear c6
                  obtain ⟨z0, z1, z2, z3, z4, z5, z6, z7, z8, z9, z10, z11, z12, z13, z14, z15, z16, z17, z18, z19, z20, z21, z22, z23, z24, z25⟩ := IsRec.all13 ZZ.out
                  go_wp2_with fail
                  (try simp only [Exit.inBlock, Exit.then])
                  refine bodyPost_ret (results_ctt rfl _ _ w.heap.size 33 #[.int .i64 0, .int .i64 0, .int .i64 0, .int .i64 0, .int .i64 0, .string ⟨#[]⟩, .string ⟨#[]⟩, .string ⟨#[]⟩, .int .i64 0, .slice none 0 0, .slice none 0 0, .int .i64 0, .int .i64 0] (0, 0) _ rfl (IsRec.sets13 ZZ.out 0 0 0 0 0 ⟨#[]⟩ ⟨#[]⟩ ⟨#[]⟩ 0 (.slice none 0 0) (.slice none 0 0) 0 0) hu32 rfl (by kernel_rfl)) rfl ?_
                  exact ⟨_, _, rfl, Kd.R_nil _ _ _ _ _, Kd.R_nil _ _ _ _ _, below13 BB.out (Nat.le_refl _)⟩
              · rw [if_neg c5] at h
                exact absurd h (by simp)
end Go.Proofs.YteoebfiacnploaaGreatDoor.HRec
