import Derived.Test.YtflbkgpmepfhlaaDoorFtypes
import Derived.Test.YtflbkgpmepfhlaaDoorFgharryref25Words
import Derived.Test.YtflbkgpmepfhlaaDoorFgharryref25known
import Derived.Test.YtflbkgpmepfhlaaDoorFgharryref25args
import Derived.Test.YtflbkgpmepfhlaaDoorFgharryref25number
namespace Go.Proofs.YtflbkgpmepfhlaaDoor.HSay
open Go.RowKit Go.Proofs.YtflbkgpmepfhlaaDoor.Hook Go.Proofs.YtflbkgpmepfhlaaDoorW.PrintWords Go.Proofs.YtflbkgpmepfhlaaDoorW.PrintLast Go.Proofs.YtflbkgpmepfhlaaDoorW.PrintMore
attribute [local go_sem] max2_int min2_int max_two min_two max_three min_three max_four min_four   -- for this text's walks alone
set_option linter.unusedVariables false
set_option linter.unusedSimpArgs false




def gharryref25_Print.l0 : Nat → ByteArray → ByteArray → Int → Int → Int → Int → Int → Int → ByteArray → ByteArray → Bool → Option (ByteArray × Int)
  | 0, _, _, _, _, _, _, _, _, _, _, _ => none
  | k + 1, x4, x5, x6, x344000, x344001, x344002, x344003, x344004, x344005, x344006, x344007 => if x6 < (x5.size : Int) then (if 0 ≤ x6 then (if (bt x5 x6) = 119 then ((gharryref25_number.f x344002).bind fun bt350 => (if bt350.2 = true then (if x4.size + 1 ≤ 9223372036854775807 then (if (x4 ++ (⟨#[32]⟩ : ByteArray)).size + bt350.1.size ≤ 9223372036854775807 then (gharryref25_Print.l0 k ((x4 ++ (⟨#[32]⟩ : ByteArray)) ++ bt350.1) x5 (wrap64 (x6 + 1)) x344000 x344001 x344002 x344003 x344004 x344005 x344006 x344007) else (none)) else (none)) else (some ((⟨#[]⟩ : ByteArray), 6)))) else (if (bt x5 x6) = 110 then ((gharryref25_number.f x344001).bind fun bt352 => (if bt352.2 = true then (if x4.size + 1 ≤ 9223372036854775807 then (if (x4 ++ (⟨#[32]⟩ : ByteArray)).size + bt352.1.size ≤ 9223372036854775807 then (gharryref25_Print.l0 k ((x4 ++ (⟨#[32]⟩ : ByteArray)) ++ bt352.1) x5 (wrap64 (x6 + 1)) x344000 x344001 x344002 x344003 x344004 x344005 x344006 x344007) else (none)) else (none)) else (some ((⟨#[]⟩ : ByteArray), 6)))) else (if (bt x5 x6) = 107 then ((gharryref25_Word.f x344005).bind fun t354 => (if x4.size + 1 ≤ 9223372036854775807 then (if (x4 ++ (⟨#[32]⟩ : ByteArray)).size + t354.size ≤ 9223372036854775807 then (gharryref25_Print.l0 k ((x4 ++ (⟨#[32]⟩ : ByteArray)) ++ t354) x5 (wrap64 (x6 + 1)) x344000 x344001 x344002 x344003 x344004 x344005 x344006 x344007) else (none)) else (none))) else (if (bt x5 x6) = 118 then ((gharryref25_Word.f x344006).bind fun t355 => (if x4.size + 1 ≤ 9223372036854775807 then (if (x4 ++ (⟨#[32]⟩ : ByteArray)).size + t355.size ≤ 9223372036854775807 then (gharryref25_Print.l0 k ((x4 ++ (⟨#[32]⟩ : ByteArray)) ++ t355) x5 (wrap64 (x6 + 1)) x344000 x344001 x344002 x344003 x344004 x344005 x344006 x344007) else (none)) else (none))) else (if (bt x5 x6) = 99 then ((gharryref25_number.f x344003).bind fun bt356 => (if bt356.2 = true then (if x4.size + 1 ≤ 9223372036854775807 then (if (x4 ++ (⟨#[32]⟩ : ByteArray)).size + bt356.1.size ≤ 9223372036854775807 then (gharryref25_Print.l0 k ((x4 ++ (⟨#[32]⟩ : ByteArray)) ++ bt356.1) x5 (wrap64 (x6 + 1)) x344000 x344001 x344002 x344003 x344004 x344005 x344006 x344007) else (none)) else (none)) else (some ((⟨#[]⟩ : ByteArray), 6)))) else (if (bt x5 x6) = 109 then ((gharryref25_Number.f x344004).bind fun t358 => (if x4.size + 1 ≤ 9223372036854775807 then (if (x4 ++ (⟨#[32]⟩ : ByteArray)).size + t358.size ≤ 9223372036854775807 then (gharryref25_Print.l0 k ((x4 ++ (⟨#[32]⟩ : ByteArray)) ++ t358) x5 (wrap64 (x6 + 1)) x344000 x344001 x344002 x344003 x344004 x344005 x344006 x344007) else (none)) else (none))) else (if x344007 = true then (if x4.size + 1 ≤ 9223372036854775807 then (if (x4 ++ (⟨#[32]⟩ : ByteArray)).size + 4 ≤ 9223372036854775807 then (gharryref25_Print.l0 k ((x4 ++ (⟨#[32]⟩ : ByteArray)) ++ (⟨#[98, 111, 116, 104]⟩ : ByteArray)) x5 (wrap64 (x6 + 1)) x344000 x344001 x344002 x344003 x344004 x344005 x344006 x344007) else (none)) else (none)) else (if x4.size + 1 ≤ 9223372036854775807 then (if (x4 ++ (⟨#[32]⟩ : ByteArray)).size + 3 ≤ 9223372036854775807 then (gharryref25_Print.l0 k ((x4 ++ (⟨#[32]⟩ : ByteArray)) ++ (⟨#[111, 110, 101]⟩ : ByteArray)) x5 (wrap64 (x6 + 1)) x344000 x344001 x344002 x344003 x344004 x344005 x344006 x344007) else (none)) else (none))))))))) else (none)) else (some (x4, 0))
def gharryref25_Print.f (k : Nat) (a0_0 : Int) (a0_1 : Int) (a0_2 : Int) (a0_3 : Int) (a0_4 : Int) (a0_5 : ByteArray) (a0_6 : ByteArray) (a0_7 : Bool) : Option (ByteArray × Int) := (gharryref25_known.f a0_0).bind fun t344 => (if t344 = true then ((gharryref25_Words.f).bind fun t345 => (if 0 ≤ a0_0 then (if a0_0 < (t345.length : Int) then ((gharryref25_args.f a0_0).bind fun t349 => (gharryref25_Print.l0 k (rdOf ByteArray.empty t345 a0_0) t349 0 a0_0 a0_1 a0_2 a0_3 a0_4 a0_5 a0_6 a0_7)) else (none)) else (none))) else (some ((⟨#[]⟩ : ByteArray), 1)))
theorem gharryref25_Print.mono_l : ∀ k, (∀ y0 y1 y2 y3 y4 y5 y6 y7 y8 y9 y10, LeO (gharryref25_Print.l0 k y0 y1 y2 y3 y4 y5 y6 y7 y8 y9 y10) (gharryref25_Print.l0 (k + 1) y0 y1 y2 y3 y4 y5 y6 y7 y8 y9 y10))
  | 0 => fun _ _ _ _ _ _ _ _ _ _ _ r h => by simp [gharryref25_Print.l0] at h
  | k + 1 => by
    have ih0 := gharryref25_Print.mono_l k
    · intro y0 y1 y2 y3 y4 y5 y6 y7 y8 y9 y10
      unfold gharryref25_Print.l0
      repeat' first
      | (with_reducible exact ih0 _ _ _ _ _ _ _ _ _ _ _)
      | (with_reducible exact LeO.refl _)
      | (with_reducible exact LeO.none _)
      | (with_reducible refine LeO.ite ?_ ?_)
      | (with_reducible refine LeO.bind ?_ (fun _ => ?_))
      | exact ih0 _ _ _ _ _ _ _ _ _ _ _
      | exact LeO.none _
      | refine LeO.ite ?_ ?_
      | refine LeO.bind ?_ (fun _ => ?_)
theorem gharryref25_Print.mono : ∀ a0 a1 a2 a3 a4 a5 a6 a7 k, LeO (gharryref25_Print.f k a0 a1 a2 a3 a4 a5 a6 a7) (gharryref25_Print.f (k + 1) a0 a1 a2 a3 a4 a5 a6 a7) := by
  intro a0 a1 a2 a3 a4 a5 a6 a7 k
  have ih0 := gharryref25_Print.mono_l k
  unfold gharryref25_Print.f
  repeat' first
      | (with_reducible exact ih0 _ _ _ _ _ _ _ _ _ _ _)
      | (with_reducible exact LeO.refl _)
      | (with_reducible exact LeO.none _)
      | (with_reducible refine LeO.ite ?_ ?_)
      | (with_reducible refine LeO.bind ?_ (fun _ => ?_))
      | exact ih0 _ _ _ _ _ _ _ _ _ _ _
      | exact LeO.none _
      | refine LeO.ite ?_ ?_
      | refine LeO.bind ?_ (fun _ => ?_)
set_option maxHeartbeats 8000000 in
set_option maxRecDepth 100000 in
theorem gharryref25_Print.calls (k : Nat) (a0_0 : Int) (a0_1 : Int) (a0_2 : Int) (a0_3 : Int) (a0_4 : Int) (a0_5 : ByteArray) (a0_6 : ByteArray) (a0_7 : Bool) (r1 : ByteArray) (r2 : Int) (w : World) (h : gharryref25_Print.f k a0_0 a0_1 a0_2 a0_3 a0_4 a0_5 a0_6 a0_7 = some (r1, r2)) :
    Calls Tryd.prog 25 #[.agg #[.int .i64 a0_0, .int .i64 a0_1, .int .i64 a0_2, .int .i64 a0_3, .int .u64 a0_4, .string a0_5, .string a0_6, .bool a0_7]] w fun e w' => e = .returned (.tuple #[.string r1, .int .i64 r2]) ∧ Below w.heap.size w w' := by
  have hu32 := Tryd.underlying32
  have HB := Aside0.mk (Below.refl w.heap.size w)
  have H : ((gharryref25_known.f a0_0).bind fun t344 => (if t344 = true then ((gharryref25_Words.f).bind fun t345 => (if 0 ≤ a0_0 then (if a0_0 < (t345.length : Int) then ((gharryref25_args.f a0_0).bind fun t349 => (gharryref25_Print.l0 k (rdOf ByteArray.empty t345 a0_0) t349 0 a0_0 a0_1 a0_2 a0_3 a0_4 a0_5 a0_6 a0_7)) else (none)) else (none))) else (some ((⟨#[]⟩ : ByteArray), 1)))) = some (r1, r2) := h
  clear h
  replace H := Option.bind_eq_some_iff.mp H
  obtain ⟨t344, A20, H⟩ := H
  replace H : (if t344 = true then ((gharryref25_Words.f).bind fun t345 => (if 0 ≤ a0_0 then (if a0_0 < (t345.length : Int) then ((gharryref25_args.f a0_0).bind fun t349 => (gharryref25_Print.l0 k (rdOf ByteArray.empty t345 a0_0) t349 0 a0_0 a0_1 a0_2 a0_3 a0_4 a0_5 a0_6 a0_7)) else (none)) else (none))) else (some ((⟨#[]⟩ : ByteArray), 1))) = some (r1, r2) := H
  have A2 := Aside0.mk A20
  clear A20
  by_cases c3 : t344 = true
  · subst c3
    have H1 : ((gharryref25_Words.f).bind fun t345 => (if 0 ≤ a0_0 then (if a0_0 < (t345.length : Int) then ((gharryref25_args.f a0_0).bind fun t349 => (gharryref25_Print.l0 k (rdOf ByteArray.empty t345 a0_0) t349 0 a0_0 a0_1 a0_2 a0_3 a0_4 a0_5 a0_6 a0_7)) else (none)) else (none))) = some (r1, r2) := by rw [if_pos rfl] at H; exact H
    clear H
    have H := H1
    clear H1
    replace H := Option.bind_eq_some_iff.mp H
    obtain ⟨t345, A40, H⟩ := H
    replace H : (if 0 ≤ a0_0 then (if a0_0 < (t345.length : Int) then ((gharryref25_args.f a0_0).bind fun t349 => (gharryref25_Print.l0 k (rdOf ByteArray.empty t345 a0_0) t349 0 a0_0 a0_1 a0_2 a0_3 a0_4 a0_5 a0_6 a0_7)) else (none)) else (none)) = some (r1, r2) := H
    have A4 := Aside0.mk A40
    clear A40
    by_cases c5 : 0 ≤ a0_0
    · rw [if_pos c5] at H
      have c5b0 : decide (0 ≤ a0_0) = true := decide_eq_true c5
      clear c5
      by_cases c6 : a0_0 < (t345.length : Int)
      · rw [if_pos c6] at H
        have c6b0 : decide (a0_0 < (t345.length : Int)) = true := decide_eq_true c6
        clear c6
        replace H := Option.bind_eq_some_iff.mp H
        obtain ⟨t349, A70, H⟩ := H
        replace H : (gharryref25_Print.l0 k (rdOf ByteArray.empty t345 a0_0) t349 0 a0_0 a0_1 a0_2 a0_3 a0_4 a0_5 a0_6 a0_7) = some (r1, r2) := H
        have A7 := Aside0.mk A70
        clear A70
        have H' := Aside0.mk H
        clear H
        go_enter Tryd.func25, Tryd.ntmps25
        try go_wp2_with (first | ((with_reducible refine gate_dst (N := 1) rfl ?_); refine box_event ?hg (N := 1) ?hd (cs := #[.int .i64 a0_0, .int .i64 a0_1, .int .i64 a0_2, .int .i64 a0_3, .int .u64 a0_4, .string a0_5, .string a0_6, .bool a0_7]) (t := 32) ?hr ?_; (case hd => rfl); (case hg => rfl); (case hr => first | (go_simp; done) | (go_simp; rfl)); intro gb343 hg w8 hbox hb; have n0_ := Aside0.mk (below_step (by repeat (first | (with_reducible first | exact HB.out | apply below_alloc | apply pw_below_drewN | apply below_drew1) | exact HB.out)) hb); have n1_ := Aside0.mk (hbox); have n2_ := Aside0.mk ((by rw [hg]; exact (below_size (by repeat (first | (with_reducible first | exact HB.out | apply below_alloc | apply pw_below_drewN | apply below_drew1) | exact HB.out))) : w.heap.size ≤ gb343)); have n3_ := Aside0.mk ((by rw [hg]; exact (below_size (by repeat (first | (with_reducible first | exact HB.out | apply below_alloc | apply pw_below_drewN | apply below_drew1) | exact HB.out))) : w.heap.size ≤ gb343)); clear HB; have HB := n0_; have BK343 := n1_; have GW343 := n2_; have GE343 := n3_; clear n0_ n1_ n2_ n3_; clear hb hbox hg; have hcz9_0 : w8.cell? ⟨gb343, 0, none⟩ = some (.int .i64 a0_0) := (blk_cell BK343.out 0).trans rfl; have hcz9_1 : w8.cell? ⟨gb343, 1, none⟩ = some (.int .i64 a0_1) := (blk_cell BK343.out 1).trans rfl; have hcz9_2 : w8.cell? ⟨gb343, 2, none⟩ = some (.int .i64 a0_2) := (blk_cell BK343.out 2).trans rfl; have hcz9_3 : w8.cell? ⟨gb343, 3, none⟩ = some (.int .i64 a0_3) := (blk_cell BK343.out 3).trans rfl; have hcz9_4 : w8.cell? ⟨gb343, 4, none⟩ = some (.int .u64 a0_4) := (blk_cell BK343.out 4).trans rfl; have hcz9_5 : w8.cell? ⟨gb343, 5, none⟩ = some (.string a0_5) := (blk_cell BK343.out 5).trans rfl; have hcz9_6 : w8.cell? ⟨gb343, 6, none⟩ = some (.string a0_6) := (blk_cell BK343.out 6).trans rfl; have hcz9_7 : w8.cell? ⟨gb343, 7, none⟩ = some (.bool a0_7) := (blk_cell BK343.out 7).trans rfl; have hfz9_0 := blk_frozen BK343.out 0; have hfz9_1 := blk_frozen BK343.out 1; have hfz9_2 := blk_frozen BK343.out 2; have hfz9_3 := blk_frozen BK343.out 3; have hfz9_4 := blk_frozen BK343.out 4; have hfz9_5 := blk_frozen BK343.out 5; have hfz9_6 := blk_frozen BK343.out 6; have hfz9_7 := blk_frozen BK343.out 7) | ((with_reducible refine gate_callee (f := 37) rfl ?_); refine goesL_ (some 11) rfl rfl Tryd.func37 (by kernel_rfl) rfl #[.int .i64 a0_0] rfl (by (try simp only [List.map_toArray, List.map_cons, List.map_nil]); first | done | rfl | (simp only [List.length_drop, List.length_take]; rfl)) ?_; (with_reducible refine (gharryref25_known.calls a0_0 true _ A2.out).mono ?_); rintro e w' ⟨rfl, ⟨nd, rfl⟩⟩; refine ⟨_, rfl, ?_⟩))
        (try (rw [drewN_self w8]; generalize hq_ : World.drewN w8 _ = w8; have n0_ : Aside0 (w8.heap[gb343]? = some (.cells #[.int .i64 a0_0, .int .i64 a0_1, .int .i64 a0_2, .int .i64 a0_3, .int .u64 a0_4, .string a0_5, .string a0_6, .bool a0_7] 32 (0, 0))) := ⟨by rw [← hq_]; exact (by (with_reducible repeat (first | refine blk_drewN ?_ _ | refine blk_drew ?_ | refine blk_alloc ?_ _)); exact BK343.out)⟩; have n1_ : Aside0 (Below w.heap.size w w8) := ⟨by rw [← hq_]; exact (by repeat (first | (with_reducible first | exact HB.out | apply below_alloc | apply pw_below_drewN | apply below_drew1 | refine below_set ?_ GE343.out) | exact HB.out))⟩; clear BK343 HB hq_; have BK343 := n0_; have HB := n1_; clear n0_ n1_))
        have n0_ := Aside0.mk (blk_drew BK343.out)
        have n1_ := Aside0.mk (below_drew1 HB.out)
        clear BK343
        clear HB
        have BK343 := n0_
        have HB := n1_
        clear n0_ n1_
        refine start_ (n := 6) (S := fun w' => w'.cell? ⟨gb343, 0, none⟩ = some (.int .i64 a0_0) ∧ w'.cell? ⟨gb343, 1, none⟩ = some (.int .i64 a0_1) ∧ w'.cell? ⟨gb343, 2, none⟩ = some (.int .i64 a0_2) ∧ w'.cell? ⟨gb343, 3, none⟩ = some (.int .i64 a0_3) ∧ w'.cell? ⟨gb343, 4, none⟩ = some (.int .u64 a0_4) ∧ w'.cell? ⟨gb343, 5, none⟩ = some (.string a0_5) ∧ w'.cell? ⟨gb343, 6, none⟩ = some (.string a0_6) ∧ w'.cell? ⟨gb343, 7, none⟩ = some (.bool a0_7)) (ds := []) #[false, false, false, false, false, false] (by kernel_rfl) rfl rfl ⟨(blk_cell BK343.out 0).trans rfl, (blk_cell BK343.out 1).trans rfl, (blk_cell BK343.out 2).trans rfl, (blk_cell BK343.out 3).trans rfl, (blk_cell BK343.out 4).trans rfl, (blk_cell BK343.out 5).trans rfl, (blk_cell BK343.out 6).trans rfl, (blk_cell BK343.out 7).trans rfl⟩ (fun hHeld => ?_)
        generalize w8.drew = w10 at BK343 HB hHeld ⊢
        refine pure_ (i := 1) (N := some 14) (v := ?_) (a' := ?_) #[false, true, false, false, false, false] rfl rfl (by kernel_rfl) (fun _ _ _ h => h) (Or.inl ⟨by rfl, ?_⟩) ?_ ?_
        rotate_left
        · intro w'
          go_simp
          with_reducible rfl
        rotate_left
        · simp only [Act.put, List.setIfInBounds_toArray, List.set_cons_zero, List.set_cons_succ, i64_w, i32_w]
          rfl
        refine take_ (i := 2) (N := some 15) (v := ?_) (a' := ?_) #[false, true, true, false, false, false] rfl rfl (by kernel_rfl) (fun _ _ _ h => h) (Or.inl ⟨by rfl, ?_⟩) hHeld ?_ ?_
        rotate_left
        · rintro w' ⟨s0, s1, s2, s3, s4, s5, s6, s7⟩
          go_simp
          with_reducible rfl
        rotate_left
        · simp only [Act.put, List.setIfInBounds_toArray, List.set_cons_zero, List.set_cons_succ, i64_w, i32_w]
          rfl
        refine one_ (i := 0) (N := some 13) #[true, true, true, false, false, false] rfl rfl (by kernel_rfl) (by decide) (fun K hK => ?_)
        refine goes_ Tryd.func18 (by kernel_rfl) rfl #[] (by rfl) rfl rfl (by (try simp only [List.map_toArray, List.map_cons, List.map_nil]); first | done | rfl | (simp only [List.length_drop, List.length_take]; rfl)) ?_
        with_reducible refine (gharryref25_Words.calls  t345 _ A4.out).mono ?_
        rintro e w11 ⟨v346, rfl, ho0, hb⟩
        skip
        refine ⟨_, rfl, ?_⟩
        have n0_ := Aside0.mk (Kd.R_lower ho0 (below_size (by repeat (first | (with_reducible first | exact HB.out | apply below_alloc | apply pw_below_drewN | apply below_drew1 | refine below_set ?_ GE343.out) | exact HB.out))))
        have n1_ := Aside0.mk (blk_below (g := gb343) (o := .cells #[.int .i64 a0_0, .int .i64 a0_1, .int .i64 a0_2, .int .i64 a0_3, .int .u64 a0_4, .string a0_5, .string a0_6, .bool a0_7] 32 (0, 0)) (by (with_reducible repeat (first | refine blk_drewN ?_ _ | refine blk_drew ?_ | refine blk_alloc ?_ _)); exact BK343.out) hb)
        have n2_ := Aside0.mk (below_step (by repeat (first | (with_reducible first | exact HB.out | apply below_alloc | apply pw_below_drewN | apply below_drew1 | refine below_set ?_ GE343.out) | exact HB.out)) hb)
        clear BK343
        clear HB
        have HO347 := n0_
        have BK343 := n1_
        have HB := n2_
        clear n0_ n1_ n2_
        (try clear hb)
        (try clear hb2)
        (try clear hk)
        (try clear hi)
        (try clear ho0)
        obtain ⟨Ao12, co12, eo12⟩ := Kd.R_slice HO347.out
        (first | subst eo12 | (injection eo12 with f1_ f2_ f3_; have f4_ := f1_.symm; have f5_ := f3_.symm; clear f1_ f2_ f3_; subst f4_; subst f5_))
        have p348 : 0 ≤ (a0_0 : Int) := of_decide_eq_true (by first | (with_reducible assumption) | assumption)
        have q348 : a0_0 < (t345.length : Int) := of_decide_eq_true (by first | (with_reducible assumption) | assumption)
        obtain ⟨ad348, e348, hx348_0⟩ := Kd.at_string (Kd.R_reads' HO347.out).2.2 a0_0 p348 q348
        cases e348
        replace p348 := eq_true p348
        replace q348 := eq_true q348
        refine hK.out _ _ ⟨(blk_cell BK343.out 0).trans rfl, (blk_cell BK343.out 1).trans rfl, (blk_cell BK343.out 2).trans rfl, (blk_cell BK343.out 3).trans rfl, (blk_cell BK343.out 4).trans rfl, (blk_cell BK343.out 5).trans rfl, (blk_cell BK343.out 6).trans rfl, (blk_cell BK343.out 7).trans rfl⟩ (fun hHeld => ?_)
        clear hK K
        refine norm_ (a' := ?_) ?_ ?_
        rotate_left
        · show Act.put _ (some 13) _ = _
          simp only [Act.put, List.setIfInBounds_toArray, List.set_cons_zero, List.set_cons_succ, i64_w, i32_w]
          rfl
        refine pure_ (i := 3) (N := some 16) (v := ?_) (a' := ?_) #[true, true, true, true, false, false] rfl rfl (by kernel_rfl) (fun _ _ _ h => h) (Or.inl ⟨by rfl, ?_⟩) ?_ ?_
        rotate_left
        · intro w'
          go_simp
          with_reducible rfl
        rotate_left
        · simp only [Act.put, List.setIfInBounds_toArray, List.set_cons_zero, List.set_cons_succ, i64_w, i32_w]
          rfl
        refine one_ (i := 4) (N := some 17) #[true, true, true, true, true, false] rfl rfl (by kernel_rfl) (by decide) (fun K hK => ?_)
        refine value_ (N := some 17) (v := .string (rdOf ByteArray.empty t345 a0_0)) (w1 := w11) (by rfl) rfl ?_ ?_
        · go_simp
          try with_reducible rfl
        refine hK.out _ _ ⟨(blk_cell BK343.out 0).trans rfl, (blk_cell BK343.out 1).trans rfl, (blk_cell BK343.out 2).trans rfl, (blk_cell BK343.out 3).trans rfl, (blk_cell BK343.out 4).trans rfl, (blk_cell BK343.out 5).trans rfl, (blk_cell BK343.out 6).trans rfl, (blk_cell BK343.out 7).trans rfl⟩ (fun hHeld => ?_)
        clear hK K
        refine norm_ (a' := ?_) ?_ ?_
        rotate_left
        · show Act.put _ (some 17) _ = _
          simp only [Act.put, List.setIfInBounds_toArray, List.set_cons_zero, List.set_cons_succ, i64_w, i32_w]
          rfl
        refine pure_ (i := 5) (N := some 4) (v := ?_) (a' := ?_) #[true, true, true, true, true, true] rfl rfl (by kernel_rfl) (fun _ _ _ h => h) (Or.inl ⟨by rfl, ?_⟩) ?_ ?_
        rotate_left
        · intro w'
          go_simp
          with_reducible rfl
        rotate_left
        · simp only [Act.put, List.setIfInBounds_toArray, List.set_cons_zero, List.set_cons_succ, i64_w, i32_w]
          rfl
        refine done_ (by kernel_rfl) ?_
        have hcz13_0 : w11.cell? ⟨gb343, 0, none⟩ = some (.int .i64 a0_0) := (blk_cell BK343.out 0).trans rfl
        have hcz13_1 : w11.cell? ⟨gb343, 1, none⟩ = some (.int .i64 a0_1) := (blk_cell BK343.out 1).trans rfl
        have hcz13_2 : w11.cell? ⟨gb343, 2, none⟩ = some (.int .i64 a0_2) := (blk_cell BK343.out 2).trans rfl
        have hcz13_3 : w11.cell? ⟨gb343, 3, none⟩ = some (.int .i64 a0_3) := (blk_cell BK343.out 3).trans rfl
        have hcz13_4 : w11.cell? ⟨gb343, 4, none⟩ = some (.int .u64 a0_4) := (blk_cell BK343.out 4).trans rfl
        have hcz13_5 : w11.cell? ⟨gb343, 5, none⟩ = some (.string a0_5) := (blk_cell BK343.out 5).trans rfl
        have hcz13_6 : w11.cell? ⟨gb343, 6, none⟩ = some (.string a0_6) := (blk_cell BK343.out 6).trans rfl
        have hcz13_7 : w11.cell? ⟨gb343, 7, none⟩ = some (.bool a0_7) := (blk_cell BK343.out 7).trans rfl
        have hfz13_0 := blk_frozen BK343.out 0
        have hfz13_1 := blk_frozen BK343.out 1
        have hfz13_2 := blk_frozen BK343.out 2
        have hfz13_3 := blk_frozen BK343.out 3
        have hfz13_4 := blk_frozen BK343.out 4
        have hfz13_5 := blk_frozen BK343.out 5
        have hfz13_6 := blk_frozen BK343.out 6
        have hfz13_7 := blk_frozen BK343.out 7
        try go_wp2_with (first | ((with_reducible refine gate_callee (f := 38) rfl ?_); refine goesL_ (some 20) rfl rfl Tryd.func38 (by kernel_rfl) rfl #[.int .i64 a0_0] rfl (by (try simp only [List.map_toArray, List.map_cons, List.map_nil]); first | done | rfl | (simp only [List.length_drop, List.length_take]; rfl)) ?_; (with_reducible refine (gharryref25_args.calls a0_0 t349 _ A7.out).mono ?_); rintro e w14 ⟨rfl, hb⟩; refine ⟨_, rfl, ?_⟩; have n0_ := Aside0.mk (Kd.R_below (by (with_reducible repeat (first | apply Kd.R_alloc | apply Kd.R_drewN | apply Kd.R_drew)); exact HO347.out) hb); have n1_ := Aside0.mk (blk_below (g := gb343) (o := .cells #[.int .i64 a0_0, .int .i64 a0_1, .int .i64 a0_2, .int .i64 a0_3, .int .u64 a0_4, .string a0_5, .string a0_6, .bool a0_7] 32 (0, 0)) (by (with_reducible repeat (first | refine blk_drewN ?_ _ | refine blk_drew ?_ | refine blk_alloc ?_ _)); exact BK343.out) hb); have n2_ := Aside0.mk (below_step (by repeat (first | (with_reducible first | exact HB.out | apply below_alloc | apply pw_below_drewN | apply below_drew1 | refine below_set ?_ GE343.out) | exact HB.out)) hb); clear HO347; clear BK343; clear HB; have HO347 := n0_; have BK343 := n1_; have HB := n2_; clear n0_ n1_ n2_; (try clear hb); (try clear hb2); (try clear hk); (try clear hi)))
        go_loopg [4, 6] k (fun kq v4 v6 w' => ∃ (x4_1 : ByteArray) (x6_1 : Int), v4 = .string x4_1 ∧ v6 = .int .i64 x6_1 ∧ Aside0 (gharryref25_Print.l0 kq x4_1 t349 x6_1 a0_0 a0_1 a0_2 a0_3 a0_4 a0_5 a0_6 a0_7 = some (r1, r2)) ∧ Aside0 (kq ≤ k) ∧ Aside0 (w'.heap[gb343]? = some (.cells #[.int .i64 a0_0, .int .i64 a0_1, .int .i64 a0_2, .int .i64 a0_3, .int .u64 a0_4, .string a0_5, .string a0_6, .bool a0_7] 32 (0, 0))) ∧ Aside0 (Below w.heap.size w w'))
        case atStart => exact ⟨(rdOf ByteArray.empty t345 a0_0), (0), (by first | rfl | (simp; done) | (simp [*]; done)), (by first | rfl | (simp; done) | (simp [*]; done)), H', ⟨Nat.le_refl _⟩, ⟨by (with_reducible repeat (first | refine blk_drewN ?_ _ | refine blk_drew ?_ | refine blk_alloc ?_ _)); exact BK343.out⟩, ⟨by repeat (first | (with_reducible first | exact HB.out | apply below_alloc | apply pw_below_drewN | apply below_drew1 | refine below_set ?_ GE343.out) | exact HB.out)⟩⟩
        case round =>
          clear H'
          try clear c1
          try clear c2
          try clear p2
          try clear c3
          try clear p3
          try clear q3
          try clear hx3
          try clear c5
          try clear c5b0
          try clear c6
          try clear c6b0
          try clear hcz13_0
          try clear hcz13_1
          try clear hcz13_2
          try clear hcz13_3
          try clear hcz13_4
          try clear hcz13_5
          try clear hcz13_6
          try clear hcz13_7
          try clear hcz9_0
          try clear hcz9_1
          try clear hcz9_2
          try clear hcz9_3
          try clear hcz9_4
          try clear hcz9_5
          try clear hcz9_6
          try clear hcz9_7
          try clear hfz13_0
          try clear hfz13_1
          try clear hfz13_2
          try clear hfz13_3
          try clear hfz13_4
          try clear hfz13_5
          try clear hfz13_6
          try clear hfz13_7
          try clear hfz9_0
          try clear hfz9_1
          try clear hfz9_2
          try clear hfz9_3
          try clear hfz9_4
          try clear hfz9_5
          try clear hfz9_6
          try clear hfz9_7
          try clear hx348_0
          try clear p348
          try clear q348
          obtain ⟨x4_1, x6_1, rfl, rfl, HA, HK1, BK343, HB⟩ := hrel
          cases gk with
          | zero => exact absurd HA.out (by simp [gharryref25_Print.l0])
          | succ k1 =>
            have H := HA.out
            clear HA
            simp only [gharryref25_Print.l0] at H
            by_cases c15 : x6_1 < (t349.size : Int)
            · rw [if_pos c15] at H
              have c15b0 : decide (x6_1 < (t349.size : Int)) = true := decide_eq_true c15
              clear c15
              by_cases c16 : 0 ≤ x6_1
              · rw [if_pos c16] at H
                have c16b0 : decide (0 ≤ x6_1) = true := decide_eq_true c16
                clear c16
                by_cases c18 : (bt t349 x6_1) = 119
                · rw [if_pos c18] at H
                  have c18b0 : ((bt t349 x6_1) == 119) = true := beq_iff_eq.mpr c18
                  have c18b1 : ((bt t349 x6_1) != 119) = false := bne_eq_false_iff_eq.mpr c18
                  clear c18
                  replace H := Option.bind_eq_some_iff.mp H
                  obtain ⟨⟨t350, t351⟩, A190, H⟩ := H
                  replace H : (if t351 = true then (if x4_1.size + 1 ≤ 9223372036854775807 then (if (x4_1 ++ (⟨#[32]⟩ : ByteArray)).size + t350.size ≤ 9223372036854775807 then (gharryref25_Print.l0 k1 ((x4_1 ++ (⟨#[32]⟩ : ByteArray)) ++ t350) t349 (wrap64 (x6_1 + 1)) a0_0 a0_1 a0_2 a0_3 a0_4 a0_5 a0_6 a0_7) else (none)) else (none)) else (some ((⟨#[]⟩ : ByteArray), 6))) = some (r1, r2) := H
                  have A19 := Aside0.mk A190
                  clear A190
                  by_cases c20 : t351 = true
                  · subst c20
                    have H1 : (if x4_1.size + 1 ≤ 9223372036854775807 then (if (x4_1 ++ (⟨#[32]⟩ : ByteArray)).size + t350.size ≤ 9223372036854775807 then (gharryref25_Print.l0 k1 ((x4_1 ++ (⟨#[32]⟩ : ByteArray)) ++ t350) t349 (wrap64 (x6_1 + 1)) a0_0 a0_1 a0_2 a0_3 a0_4 a0_5 a0_6 a0_7) else (none)) else (none)) = some (r1, r2) := by rw [if_pos rfl] at H; exact H
                    clear H
                    have H := H1
                    clear H1
                    by_cases c21 : x4_1.size + 1 ≤ 9223372036854775807
                    · rw [if_pos c21] at H
                      have c21b0 := eq_true c21
                      have c21b1 : decide (x4_1.size + 1 ≤ 9223372036854775807) = true := decide_eq_true c21
                      try have c21b2 : (9223372036854775807 < x4_1.size + 1) = False := eq_false (Nat.not_lt.2 c21)
                      by_cases c22 : (x4_1 ++ (⟨#[32]⟩ : ByteArray)).size + t350.size ≤ 9223372036854775807
                      · rw [if_pos c22] at H
                        have c22b0 := eq_true c22
                        have c22b1 : decide ((x4_1 ++ (⟨#[32]⟩ : ByteArray)).size + t350.size ≤ 9223372036854775807) = true := decide_eq_true c22
                        try have c22b2 : (9223372036854775807 < (x4_1 ++ (⟨#[32]⟩ : ByteArray)).size + t350.size) = False := eq_false (Nat.not_lt.2 c22)
                        try have c22b8 : (9223372036854775807 < x4_1.size + 1 + t350.size) = False := eq_false (Nat.not_lt.2 (by have h_ := c22; simp only [ByteArray.size_append] at h_; exact h_))
                        have H' := Aside0.mk H
                        clear H
                        have p17 : 0 ≤ (x6_1 : Int) := of_decide_eq_true (by first | (with_reducible assumption) | assumption)
                        have q17 : x6_1 < (t349.size : Int) := of_decide_eq_true (by first | (with_reducible assumption) | assumption)
                        have hx17 := bt_at t349 x6_1
                        replace p17 := eq_true p17
                        replace q17 := eq_true q17
                        have hcz23_0 : wr.cell? ⟨gb343, 0, none⟩ = some (.int .i64 a0_0) := (blk_cell BK343.out 0).trans rfl
                        have hcz23_1 : wr.cell? ⟨gb343, 1, none⟩ = some (.int .i64 a0_1) := (blk_cell BK343.out 1).trans rfl
                        have hcz23_2 : wr.cell? ⟨gb343, 2, none⟩ = some (.int .i64 a0_2) := (blk_cell BK343.out 2).trans rfl
                        have hcz23_3 : wr.cell? ⟨gb343, 3, none⟩ = some (.int .i64 a0_3) := (blk_cell BK343.out 3).trans rfl
                        have hcz23_4 : wr.cell? ⟨gb343, 4, none⟩ = some (.int .u64 a0_4) := (blk_cell BK343.out 4).trans rfl
                        have hcz23_5 : wr.cell? ⟨gb343, 5, none⟩ = some (.string a0_5) := (blk_cell BK343.out 5).trans rfl
                        have hcz23_6 : wr.cell? ⟨gb343, 6, none⟩ = some (.string a0_6) := (blk_cell BK343.out 6).trans rfl
                        have hcz23_7 : wr.cell? ⟨gb343, 7, none⟩ = some (.bool a0_7) := (blk_cell BK343.out 7).trans rfl
                        have hfz23_0 := blk_frozen BK343.out 0
                        have hfz23_1 := blk_frozen BK343.out 1
                        have hfz23_2 := blk_frozen BK343.out 2
                        have hfz23_3 := blk_frozen BK343.out 3
                        have hfz23_4 := blk_frozen BK343.out 4
                        have hfz23_5 := blk_frozen BK343.out 5
                        have hfz23_6 := blk_frozen BK343.out 6
                        have hfz23_7 := blk_frozen BK343.out 7
                        go_wp2_with (first | ((with_reducible refine gate_callee (f := 44) rfl ?_); refine goesL_ (some 37) rfl rfl Tryd.func44 (by kernel_rfl) rfl #[.int .i64 a0_2] rfl (by (try simp only [List.map_toArray, List.map_cons, List.map_nil]); first | done | rfl | (simp only [List.length_drop, List.length_take]; rfl)) ?_; (with_reducible refine (gharryref25_number.calls a0_2 t350 true _ A19.out).mono ?_); rintro e w24 ⟨rfl, hb⟩; refine ⟨_, rfl, ?_⟩; have n0_ := Aside0.mk (blk_below (g := gb343) (o := .cells #[.int .i64 a0_0, .int .i64 a0_1, .int .i64 a0_2, .int .i64 a0_3, .int .u64 a0_4, .string a0_5, .string a0_6, .bool a0_7] 32 (0, 0)) (by (with_reducible repeat (first | refine blk_drewN ?_ _ | refine blk_drew ?_ | refine blk_alloc ?_ _)); exact BK343.out) hb); have n1_ := Aside0.mk (below_step (by repeat (first | (with_reducible first | exact HB.out | apply below_alloc | apply pw_below_drewN | apply below_drew1 | refine below_set ?_ GE343.out) | exact HB.out)) hb); clear BK343; clear HB; have BK343 := n0_; have HB := n1_; clear n0_ n1_; (try clear hb); (try clear hb2); (try clear hk); (try clear hi)))
                        go_roundg k1
                        case measure => have := HK1.out; omega
                        case rel => exact ⟨((x4_1 ++ (⟨#[32]⟩ : ByteArray)) ++ t350), (wrap64 (x6_1 + 1)), (by first | rfl | (simp; done) | (simp [*]; done)), (by first | rfl | (simp; done) | (simp [*]; done)), H', ⟨by have := HK1.out; omega⟩, ⟨by (with_reducible repeat (first | refine blk_drewN ?_ _ | refine blk_drew ?_ | refine blk_alloc ?_ _)); exact BK343.out⟩, ⟨by repeat (first | (with_reducible first | exact HB.out | apply below_alloc | apply pw_below_drewN | apply below_drew1 | refine below_set ?_ GE343.out) | exact HB.out)⟩⟩
                      · rw [if_neg c22] at H
                        exact absurd H (by simp)
                    · rw [if_neg c21] at H
                      exact absurd H (by simp)
                  · replace c20 := Bool.eq_false_iff.mpr c20
                    subst c20
                    have H1 : (some ((⟨#[]⟩ : ByteArray), 6)) = some (r1, r2) := by rw [if_neg (show ¬ (false = true) by decide)] at H; exact H
                    clear H
                    have H := H1
                    clear H1
                    simp only [Option.some.injEq, Prod.mk.injEq] at H
                    obtain ⟨rfl, rfl⟩ := H
                    have p17 : 0 ≤ (x6_1 : Int) := of_decide_eq_true (by first | (with_reducible assumption) | assumption)
                    have q17 : x6_1 < (t349.size : Int) := of_decide_eq_true (by first | (with_reducible assumption) | assumption)
                    have hx17 := bt_at t349 x6_1
                    replace p17 := eq_true p17
                    replace q17 := eq_true q17
                    have hcz25_0 : wr.cell? ⟨gb343, 0, none⟩ = some (.int .i64 a0_0) := (blk_cell BK343.out 0).trans rfl
                    have hcz25_1 : wr.cell? ⟨gb343, 1, none⟩ = some (.int .i64 a0_1) := (blk_cell BK343.out 1).trans rfl
                    have hcz25_2 : wr.cell? ⟨gb343, 2, none⟩ = some (.int .i64 a0_2) := (blk_cell BK343.out 2).trans rfl
                    have hcz25_3 : wr.cell? ⟨gb343, 3, none⟩ = some (.int .i64 a0_3) := (blk_cell BK343.out 3).trans rfl
                    have hcz25_4 : wr.cell? ⟨gb343, 4, none⟩ = some (.int .u64 a0_4) := (blk_cell BK343.out 4).trans rfl
                    have hcz25_5 : wr.cell? ⟨gb343, 5, none⟩ = some (.string a0_5) := (blk_cell BK343.out 5).trans rfl
                    have hcz25_6 : wr.cell? ⟨gb343, 6, none⟩ = some (.string a0_6) := (blk_cell BK343.out 6).trans rfl
                    have hcz25_7 : wr.cell? ⟨gb343, 7, none⟩ = some (.bool a0_7) := (blk_cell BK343.out 7).trans rfl
                    have hfz25_0 := blk_frozen BK343.out 0
                    have hfz25_1 := blk_frozen BK343.out 1
                    have hfz25_2 := blk_frozen BK343.out 2
                    have hfz25_3 := blk_frozen BK343.out 3
                    have hfz25_4 := blk_frozen BK343.out 4
                    have hfz25_5 := blk_frozen BK343.out 5
                    have hfz25_6 := blk_frozen BK343.out 6
                    have hfz25_7 := blk_frozen BK343.out 7
                    go_wp2_with (first | ((with_reducible refine gate_callee (f := 44) rfl ?_); refine goesL_ (some 37) rfl rfl Tryd.func44 (by kernel_rfl) rfl #[.int .i64 a0_2] rfl (by (try simp only [List.map_toArray, List.map_cons, List.map_nil]); first | done | rfl | (simp only [List.length_drop, List.length_take]; rfl)) ?_; (with_reducible refine (gharryref25_number.calls a0_2 t350 false _ A19.out).mono ?_); rintro e w26 ⟨rfl, hb⟩; refine ⟨_, rfl, ?_⟩; have n0_ := Aside0.mk (blk_below (g := gb343) (o := .cells #[.int .i64 a0_0, .int .i64 a0_1, .int .i64 a0_2, .int .i64 a0_3, .int .u64 a0_4, .string a0_5, .string a0_6, .bool a0_7] 32 (0, 0)) (by (with_reducible repeat (first | refine blk_drewN ?_ _ | refine blk_drew ?_ | refine blk_alloc ?_ _)); exact BK343.out) hb); have n1_ := Aside0.mk (below_step (by repeat (first | (with_reducible first | exact HB.out | apply below_alloc | apply pw_below_drewN | apply below_drew1 | refine below_set ?_ GE343.out) | exact HB.out)) hb); clear BK343; clear HB; have BK343 := n0_; have HB := n1_; clear n0_ n1_; (try clear hb); (try clear hb2); (try clear hk); (try clear hi)))
                    go_ret2
                    exact ⟨by first | rfl | (simp [errW_none, errW_some] <;> rfl) | (simp [*, errW_none, errW_some] <;> rfl), by repeat (first | (with_reducible first | exact HB.out | apply below_alloc | apply pw_below_drewN | apply below_drew1 | refine below_set ?_ GE343.out) | exact HB.out)⟩
                · rw [if_neg c18] at H
                  have c18b0 : ((bt t349 x6_1) == 119) = false := beq_eq_false_iff_ne.mpr c18
                  have c18b1 : ((bt t349 x6_1) != 119) = true := bne_iff_ne.mpr c18
                  by_cases c27 : (bt t349 x6_1) = 110
                  · rw [if_pos c27] at H
                    have c27b0 : ((bt t349 x6_1) == 110) = true := beq_iff_eq.mpr c27
                    have c27b1 : ((bt t349 x6_1) != 110) = false := bne_eq_false_iff_eq.mpr c27
                    clear c27
                    replace H := Option.bind_eq_some_iff.mp H
                    obtain ⟨⟨t352, t353⟩, A280, H⟩ := H
                    replace H : (if t353 = true then (if x4_1.size + 1 ≤ 9223372036854775807 then (if (x4_1 ++ (⟨#[32]⟩ : ByteArray)).size + t352.size ≤ 9223372036854775807 then (gharryref25_Print.l0 k1 ((x4_1 ++ (⟨#[32]⟩ : ByteArray)) ++ t352) t349 (wrap64 (x6_1 + 1)) a0_0 a0_1 a0_2 a0_3 a0_4 a0_5 a0_6 a0_7) else (none)) else (none)) else (some ((⟨#[]⟩ : ByteArray), 6))) = some (r1, r2) := H
                    have A28 := Aside0.mk A280
                    clear A280
                    by_cases c29 : t353 = true
                    · subst c29
                      have H1 : (if x4_1.size + 1 ≤ 9223372036854775807 then (if (x4_1 ++ (⟨#[32]⟩ : ByteArray)).size + t352.size ≤ 9223372036854775807 then (gharryref25_Print.l0 k1 ((x4_1 ++ (⟨#[32]⟩ : ByteArray)) ++ t352) t349 (wrap64 (x6_1 + 1)) a0_0 a0_1 a0_2 a0_3 a0_4 a0_5 a0_6 a0_7) else (none)) else (none)) = some (r1, r2) := by rw [if_pos rfl] at H; exact H
                      clear H
                      have H := H1
                      clear H1
                      by_cases c30 : x4_1.size + 1 ≤ 9223372036854775807
                      · rw [if_pos c30] at H
                        have c30b0 := eq_true c30
                        have c30b1 : decide (x4_1.size + 1 ≤ 9223372036854775807) = true := decide_eq_true c30
                        try have c30b2 : (9223372036854775807 < x4_1.size + 1) = False := eq_false (Nat.not_lt.2 c30)
                        by_cases c31 : (x4_1 ++ (⟨#[32]⟩ : ByteArray)).size + t352.size ≤ 9223372036854775807
                        · rw [if_pos c31] at H
                          have c31b0 := eq_true c31
                          have c31b1 : decide ((x4_1 ++ (⟨#[32]⟩ : ByteArray)).size + t352.size ≤ 9223372036854775807) = true := decide_eq_true c31
                          try have c31b2 : (9223372036854775807 < (x4_1 ++ (⟨#[32]⟩ : ByteArray)).size + t352.size) = False := eq_false (Nat.not_lt.2 c31)
                          try have c31b8 : (9223372036854775807 < x4_1.size + 1 + t352.size) = False := eq_false (Nat.not_lt.2 (by have h_ := c31; simp only [ByteArray.size_append] at h_; exact h_))
                          have H' := Aside0.mk H
                          clear H
                          have p17 : 0 ≤ (x6_1 : Int) := of_decide_eq_true (by first | (with_reducible assumption) | assumption)
                          have q17 : x6_1 < (t349.size : Int) := of_decide_eq_true (by first | (with_reducible assumption) | assumption)
                          have hx17 := bt_at t349 x6_1
                          replace p17 := eq_true p17
                          replace q17 := eq_true q17
                          have hcz32_0 : wr.cell? ⟨gb343, 0, none⟩ = some (.int .i64 a0_0) := (blk_cell BK343.out 0).trans rfl
                          have hcz32_1 : wr.cell? ⟨gb343, 1, none⟩ = some (.int .i64 a0_1) := (blk_cell BK343.out 1).trans rfl
                          have hcz32_2 : wr.cell? ⟨gb343, 2, none⟩ = some (.int .i64 a0_2) := (blk_cell BK343.out 2).trans rfl
                          have hcz32_3 : wr.cell? ⟨gb343, 3, none⟩ = some (.int .i64 a0_3) := (blk_cell BK343.out 3).trans rfl
                          have hcz32_4 : wr.cell? ⟨gb343, 4, none⟩ = some (.int .u64 a0_4) := (blk_cell BK343.out 4).trans rfl
                          have hcz32_5 : wr.cell? ⟨gb343, 5, none⟩ = some (.string a0_5) := (blk_cell BK343.out 5).trans rfl
                          have hcz32_6 : wr.cell? ⟨gb343, 6, none⟩ = some (.string a0_6) := (blk_cell BK343.out 6).trans rfl
                          have hcz32_7 : wr.cell? ⟨gb343, 7, none⟩ = some (.bool a0_7) := (blk_cell BK343.out 7).trans rfl
                          have hfz32_0 := blk_frozen BK343.out 0
                          have hfz32_1 := blk_frozen BK343.out 1
                          have hfz32_2 := blk_frozen BK343.out 2
                          have hfz32_3 := blk_frozen BK343.out 3
                          have hfz32_4 := blk_frozen BK343.out 4
                          have hfz32_5 := blk_frozen BK343.out 5
                          have hfz32_6 := blk_frozen BK343.out 6
                          have hfz32_7 := blk_frozen BK343.out 7
                          go_wp2_with (first | ((with_reducible refine gate_callee (f := 44) rfl ?_); refine goesL_ (some 45) rfl rfl Tryd.func44 (by kernel_rfl) rfl #[.int .i64 a0_1] rfl (by (try simp only [List.map_toArray, List.map_cons, List.map_nil]); first | done | rfl | (simp only [List.length_drop, List.length_take]; rfl)) ?_; (with_reducible refine (gharryref25_number.calls a0_1 t352 true _ A28.out).mono ?_); rintro e w33 ⟨rfl, hb⟩; refine ⟨_, rfl, ?_⟩; have n0_ := Aside0.mk (blk_below (g := gb343) (o := .cells #[.int .i64 a0_0, .int .i64 a0_1, .int .i64 a0_2, .int .i64 a0_3, .int .u64 a0_4, .string a0_5, .string a0_6, .bool a0_7] 32 (0, 0)) (by (with_reducible repeat (first | refine blk_drewN ?_ _ | refine blk_drew ?_ | refine blk_alloc ?_ _)); exact BK343.out) hb); have n1_ := Aside0.mk (below_step (by repeat (first | (with_reducible first | exact HB.out | apply below_alloc | apply pw_below_drewN | apply below_drew1 | refine below_set ?_ GE343.out) | exact HB.out)) hb); clear BK343; clear HB; have BK343 := n0_; have HB := n1_; clear n0_ n1_; (try clear hb); (try clear hb2); (try clear hk); (try clear hi)))
                          go_roundg k1
                          case measure => have := HK1.out; omega
                          case rel => exact ⟨((x4_1 ++ (⟨#[32]⟩ : ByteArray)) ++ t352), (wrap64 (x6_1 + 1)), (by first | rfl | (simp; done) | (simp [*]; done)), (by first | rfl | (simp; done) | (simp [*]; done)), H', ⟨by have := HK1.out; omega⟩, ⟨by (with_reducible repeat (first | refine blk_drewN ?_ _ | refine blk_drew ?_ | refine blk_alloc ?_ _)); exact BK343.out⟩, ⟨by repeat (first | (with_reducible first | exact HB.out | apply below_alloc | apply pw_below_drewN | apply below_drew1 | refine below_set ?_ GE343.out) | exact HB.out)⟩⟩
                        · rw [if_neg c31] at H
                          exact absurd H (by simp)
                      · rw [if_neg c30] at H
                        exact absurd H (by simp)
                    · replace c29 := Bool.eq_false_iff.mpr c29
                      subst c29
                      have H1 : (some ((⟨#[]⟩ : ByteArray), 6)) = some (r1, r2) := by rw [if_neg (show ¬ (false = true) by decide)] at H; exact H
                      clear H
                      have H := H1
                      clear H1
                      simp only [Option.some.injEq, Prod.mk.injEq] at H
                      obtain ⟨rfl, rfl⟩ := H
                      have p17 : 0 ≤ (x6_1 : Int) := of_decide_eq_true (by first | (with_reducible assumption) | assumption)
                      have q17 : x6_1 < (t349.size : Int) := of_decide_eq_true (by first | (with_reducible assumption) | assumption)
                      have hx17 := bt_at t349 x6_1
                      replace p17 := eq_true p17
                      replace q17 := eq_true q17
                      have hcz34_0 : wr.cell? ⟨gb343, 0, none⟩ = some (.int .i64 a0_0) := (blk_cell BK343.out 0).trans rfl
                      have hcz34_1 : wr.cell? ⟨gb343, 1, none⟩ = some (.int .i64 a0_1) := (blk_cell BK343.out 1).trans rfl
                      have hcz34_2 : wr.cell? ⟨gb343, 2, none⟩ = some (.int .i64 a0_2) := (blk_cell BK343.out 2).trans rfl
                      have hcz34_3 : wr.cell? ⟨gb343, 3, none⟩ = some (.int .i64 a0_3) := (blk_cell BK343.out 3).trans rfl
                      have hcz34_4 : wr.cell? ⟨gb343, 4, none⟩ = some (.int .u64 a0_4) := (blk_cell BK343.out 4).trans rfl
                      have hcz34_5 : wr.cell? ⟨gb343, 5, none⟩ = some (.string a0_5) := (blk_cell BK343.out 5).trans rfl
                      have hcz34_6 : wr.cell? ⟨gb343, 6, none⟩ = some (.string a0_6) := (blk_cell BK343.out 6).trans rfl
                      have hcz34_7 : wr.cell? ⟨gb343, 7, none⟩ = some (.bool a0_7) := (blk_cell BK343.out 7).trans rfl
                      have hfz34_0 := blk_frozen BK343.out 0
                      have hfz34_1 := blk_frozen BK343.out 1
                      have hfz34_2 := blk_frozen BK343.out 2
                      have hfz34_3 := blk_frozen BK343.out 3
                      have hfz34_4 := blk_frozen BK343.out 4
                      have hfz34_5 := blk_frozen BK343.out 5
                      have hfz34_6 := blk_frozen BK343.out 6
                      have hfz34_7 := blk_frozen BK343.out 7
                      go_wp2_with (first | ((with_reducible refine gate_callee (f := 44) rfl ?_); refine goesL_ (some 45) rfl rfl Tryd.func44 (by kernel_rfl) rfl #[.int .i64 a0_1] rfl (by (try simp only [List.map_toArray, List.map_cons, List.map_nil]); first | done | rfl | (simp only [List.length_drop, List.length_take]; rfl)) ?_; (with_reducible refine (gharryref25_number.calls a0_1 t352 false _ A28.out).mono ?_); rintro e w35 ⟨rfl, hb⟩; refine ⟨_, rfl, ?_⟩; have n0_ := Aside0.mk (blk_below (g := gb343) (o := .cells #[.int .i64 a0_0, .int .i64 a0_1, .int .i64 a0_2, .int .i64 a0_3, .int .u64 a0_4, .string a0_5, .string a0_6, .bool a0_7] 32 (0, 0)) (by (with_reducible repeat (first | refine blk_drewN ?_ _ | refine blk_drew ?_ | refine blk_alloc ?_ _)); exact BK343.out) hb); have n1_ := Aside0.mk (below_step (by repeat (first | (with_reducible first | exact HB.out | apply below_alloc | apply pw_below_drewN | apply below_drew1 | refine below_set ?_ GE343.out) | exact HB.out)) hb); clear BK343; clear HB; have BK343 := n0_; have HB := n1_; clear n0_ n1_; (try clear hb); (try clear hb2); (try clear hk); (try clear hi)))
                      go_ret2
                      exact ⟨by first | rfl | (simp [errW_none, errW_some] <;> rfl) | (simp [*, errW_none, errW_some] <;> rfl), by repeat (first | (with_reducible first | exact HB.out | apply below_alloc | apply pw_below_drewN | apply below_drew1 | refine below_set ?_ GE343.out) | exact HB.out)⟩
                  · rw [if_neg c27] at H
                    have c27b0 : ((bt t349 x6_1) == 110) = false := beq_eq_false_iff_ne.mpr c27
                    have c27b1 : ((bt t349 x6_1) != 110) = true := bne_iff_ne.mpr c27
                    by_cases c36 : (bt t349 x6_1) = 107
                    · rw [if_pos c36] at H
                      have c36b0 : ((bt t349 x6_1) == 107) = true := beq_iff_eq.mpr c36
                      have c36b1 : ((bt t349 x6_1) != 107) = false := bne_eq_false_iff_eq.mpr c36
                      clear c36
                      replace H := Option.bind_eq_some_iff.mp H
                      obtain ⟨t354, A370, H⟩ := H
                      replace H : (if x4_1.size + 1 ≤ 9223372036854775807 then (if (x4_1 ++ (⟨#[32]⟩ : ByteArray)).size + t354.size ≤ 9223372036854775807 then (gharryref25_Print.l0 k1 ((x4_1 ++ (⟨#[32]⟩ : ByteArray)) ++ t354) t349 (wrap64 (x6_1 + 1)) a0_0 a0_1 a0_2 a0_3 a0_4 a0_5 a0_6 a0_7) else (none)) else (none)) = some (r1, r2) := H
                      have A37 := Aside0.mk A370
                      clear A370
                      by_cases c38 : x4_1.size + 1 ≤ 9223372036854775807
                      · rw [if_pos c38] at H
                        have c38b0 := eq_true c38
                        have c38b1 : decide (x4_1.size + 1 ≤ 9223372036854775807) = true := decide_eq_true c38
                        try have c38b2 : (9223372036854775807 < x4_1.size + 1) = False := eq_false (Nat.not_lt.2 c38)
                        by_cases c39 : (x4_1 ++ (⟨#[32]⟩ : ByteArray)).size + t354.size ≤ 9223372036854775807
                        · rw [if_pos c39] at H
                          have c39b0 := eq_true c39
                          have c39b1 : decide ((x4_1 ++ (⟨#[32]⟩ : ByteArray)).size + t354.size ≤ 9223372036854775807) = true := decide_eq_true c39
                          try have c39b2 : (9223372036854775807 < (x4_1 ++ (⟨#[32]⟩ : ByteArray)).size + t354.size) = False := eq_false (Nat.not_lt.2 c39)
                          try have c39b8 : (9223372036854775807 < x4_1.size + 1 + t354.size) = False := eq_false (Nat.not_lt.2 (by have h_ := c39; simp only [ByteArray.size_append] at h_; exact h_))
                          have H' := Aside0.mk H
                          clear H
                          have p17 : 0 ≤ (x6_1 : Int) := of_decide_eq_true (by first | (with_reducible assumption) | assumption)
                          have q17 : x6_1 < (t349.size : Int) := of_decide_eq_true (by first | (with_reducible assumption) | assumption)
                          have hx17 := bt_at t349 x6_1
                          replace p17 := eq_true p17
                          replace q17 := eq_true q17
                          have hcz40_0 : wr.cell? ⟨gb343, 0, none⟩ = some (.int .i64 a0_0) := (blk_cell BK343.out 0).trans rfl
                          have hcz40_1 : wr.cell? ⟨gb343, 1, none⟩ = some (.int .i64 a0_1) := (blk_cell BK343.out 1).trans rfl
                          have hcz40_2 : wr.cell? ⟨gb343, 2, none⟩ = some (.int .i64 a0_2) := (blk_cell BK343.out 2).trans rfl
                          have hcz40_3 : wr.cell? ⟨gb343, 3, none⟩ = some (.int .i64 a0_3) := (blk_cell BK343.out 3).trans rfl
                          have hcz40_4 : wr.cell? ⟨gb343, 4, none⟩ = some (.int .u64 a0_4) := (blk_cell BK343.out 4).trans rfl
                          have hcz40_5 : wr.cell? ⟨gb343, 5, none⟩ = some (.string a0_5) := (blk_cell BK343.out 5).trans rfl
                          have hcz40_6 : wr.cell? ⟨gb343, 6, none⟩ = some (.string a0_6) := (blk_cell BK343.out 6).trans rfl
                          have hcz40_7 : wr.cell? ⟨gb343, 7, none⟩ = some (.bool a0_7) := (blk_cell BK343.out 7).trans rfl
                          have hfz40_0 := blk_frozen BK343.out 0
                          have hfz40_1 := blk_frozen BK343.out 1
                          have hfz40_2 := blk_frozen BK343.out 2
                          have hfz40_3 := blk_frozen BK343.out 3
                          have hfz40_4 := blk_frozen BK343.out 4
                          have hfz40_5 := blk_frozen BK343.out 5
                          have hfz40_6 := blk_frozen BK343.out 6
                          have hfz40_7 := blk_frozen BK343.out 7
                          go_wp2_with (first | ((with_reducible refine gate_callee (f := 15) rfl ?_); refine goesL_ (some 52) rfl rfl Tryd.func15 (by kernel_rfl) rfl #[.string a0_5] rfl (by (try simp only [List.map_toArray, List.map_cons, List.map_nil]); first | done | rfl | (simp only [List.length_drop, List.length_take]; rfl)) ?_; (with_reducible refine (gharryref25_Word.calls a0_5 t354 _ A37.out).mono ?_); rintro e w' ⟨rfl, ⟨nd, rfl⟩⟩; refine ⟨_, rfl, ?_⟩))
                          go_roundg k1
                          case measure => have := HK1.out; omega
                          case rel => exact ⟨((x4_1 ++ (⟨#[32]⟩ : ByteArray)) ++ t354), (wrap64 (x6_1 + 1)), (by first | rfl | (simp; done) | (simp [*]; done)), (by first | rfl | (simp; done) | (simp [*]; done)), H', ⟨by have := HK1.out; omega⟩, ⟨by (with_reducible repeat (first | refine blk_drewN ?_ _ | refine blk_drew ?_ | refine blk_alloc ?_ _)); exact BK343.out⟩, ⟨by repeat (first | (with_reducible first | exact HB.out | apply below_alloc | apply pw_below_drewN | apply below_drew1 | refine below_set ?_ GE343.out) | exact HB.out)⟩⟩
                        · rw [if_neg c39] at H
                          exact absurd H (by simp)
                      · rw [if_neg c38] at H
                        exact absurd H (by simp)
                    · rw [if_neg c36] at H
                      have c36b0 : ((bt t349 x6_1) == 107) = false := beq_eq_false_iff_ne.mpr c36
                      have c36b1 : ((bt t349 x6_1) != 107) = true := bne_iff_ne.mpr c36
                      by_cases c41 : (bt t349 x6_1) = 118
                      · rw [if_pos c41] at H
                        have c41b0 : ((bt t349 x6_1) == 118) = true := beq_iff_eq.mpr c41
                        have c41b1 : ((bt t349 x6_1) != 118) = false := bne_eq_false_iff_eq.mpr c41
                        clear c41
                        replace H := Option.bind_eq_some_iff.mp H
                        obtain ⟨t355, A420, H⟩ := H
                        replace H : (if x4_1.size + 1 ≤ 9223372036854775807 then (if (x4_1 ++ (⟨#[32]⟩ : ByteArray)).size + t355.size ≤ 9223372036854775807 then (gharryref25_Print.l0 k1 ((x4_1 ++ (⟨#[32]⟩ : ByteArray)) ++ t355) t349 (wrap64 (x6_1 + 1)) a0_0 a0_1 a0_2 a0_3 a0_4 a0_5 a0_6 a0_7) else (none)) else (none)) = some (r1, r2) := H
                        have A42 := Aside0.mk A420
                        clear A420
                        by_cases c43 : x4_1.size + 1 ≤ 9223372036854775807
                        · rw [if_pos c43] at H
                          have c43b0 := eq_true c43
                          have c43b1 : decide (x4_1.size + 1 ≤ 9223372036854775807) = true := decide_eq_true c43
                          try have c43b2 : (9223372036854775807 < x4_1.size + 1) = False := eq_false (Nat.not_lt.2 c43)
                          by_cases c44 : (x4_1 ++ (⟨#[32]⟩ : ByteArray)).size + t355.size ≤ 9223372036854775807
                          · rw [if_pos c44] at H
                            have c44b0 := eq_true c44
                            have c44b1 : decide ((x4_1 ++ (⟨#[32]⟩ : ByteArray)).size + t355.size ≤ 9223372036854775807) = true := decide_eq_true c44
                            try have c44b2 : (9223372036854775807 < (x4_1 ++ (⟨#[32]⟩ : ByteArray)).size + t355.size) = False := eq_false (Nat.not_lt.2 c44)
                            try have c44b8 : (9223372036854775807 < x4_1.size + 1 + t355.size) = False := eq_false (Nat.not_lt.2 (by have h_ := c44; simp only [ByteArray.size_append] at h_; exact h_))
                            have H' := Aside0.mk H
                            clear H
                            have p17 : 0 ≤ (x6_1 : Int) := of_decide_eq_true (by first | (with_reducible assumption) | assumption)
                            have q17 : x6_1 < (t349.size : Int) := of_decide_eq_true (by first | (with_reducible assumption) | assumption)
                            have hx17 := bt_at t349 x6_1
                            replace p17 := eq_true p17
                            replace q17 := eq_true q17
                            have hcz45_0 : wr.cell? ⟨gb343, 0, none⟩ = some (.int .i64 a0_0) := (blk_cell BK343.out 0).trans rfl
                            have hcz45_1 : wr.cell? ⟨gb343, 1, none⟩ = some (.int .i64 a0_1) := (blk_cell BK343.out 1).trans rfl
                            have hcz45_2 : wr.cell? ⟨gb343, 2, none⟩ = some (.int .i64 a0_2) := (blk_cell BK343.out 2).trans rfl
                            have hcz45_3 : wr.cell? ⟨gb343, 3, none⟩ = some (.int .i64 a0_3) := (blk_cell BK343.out 3).trans rfl
                            have hcz45_4 : wr.cell? ⟨gb343, 4, none⟩ = some (.int .u64 a0_4) := (blk_cell BK343.out 4).trans rfl
                            have hcz45_5 : wr.cell? ⟨gb343, 5, none⟩ = some (.string a0_5) := (blk_cell BK343.out 5).trans rfl
                            have hcz45_6 : wr.cell? ⟨gb343, 6, none⟩ = some (.string a0_6) := (blk_cell BK343.out 6).trans rfl
                            have hcz45_7 : wr.cell? ⟨gb343, 7, none⟩ = some (.bool a0_7) := (blk_cell BK343.out 7).trans rfl
                            have hfz45_0 := blk_frozen BK343.out 0
                            have hfz45_1 := blk_frozen BK343.out 1
                            have hfz45_2 := blk_frozen BK343.out 2
                            have hfz45_3 := blk_frozen BK343.out 3
                            have hfz45_4 := blk_frozen BK343.out 4
                            have hfz45_5 := blk_frozen BK343.out 5
                            have hfz45_6 := blk_frozen BK343.out 6
                            have hfz45_7 := blk_frozen BK343.out 7
                            go_wp2_with (first | ((with_reducible refine gate_callee (f := 15) rfl ?_); refine goesL_ (some 57) rfl rfl Tryd.func15 (by kernel_rfl) rfl #[.string a0_6] rfl (by (try simp only [List.map_toArray, List.map_cons, List.map_nil]); first | done | rfl | (simp only [List.length_drop, List.length_take]; rfl)) ?_; (with_reducible refine (gharryref25_Word.calls a0_6 t355 _ A42.out).mono ?_); rintro e w' ⟨rfl, ⟨nd, rfl⟩⟩; refine ⟨_, rfl, ?_⟩))
                            go_roundg k1
                            case measure => have := HK1.out; omega
                            case rel => exact ⟨((x4_1 ++ (⟨#[32]⟩ : ByteArray)) ++ t355), (wrap64 (x6_1 + 1)), (by first | rfl | (simp; done) | (simp [*]; done)), (by first | rfl | (simp; done) | (simp [*]; done)), H', ⟨by have := HK1.out; omega⟩, ⟨by (with_reducible repeat (first | refine blk_drewN ?_ _ | refine blk_drew ?_ | refine blk_alloc ?_ _)); exact BK343.out⟩, ⟨by repeat (first | (with_reducible first | exact HB.out | apply below_alloc | apply pw_below_drewN | apply below_drew1 | refine below_set ?_ GE343.out) | exact HB.out)⟩⟩
                          · rw [if_neg c44] at H
                            exact absurd H (by simp)
                        · rw [if_neg c43] at H
                          exact absurd H (by simp)
                      · rw [if_neg c41] at H
                        have c41b0 : ((bt t349 x6_1) == 118) = false := beq_eq_false_iff_ne.mpr c41
                        have c41b1 : ((bt t349 x6_1) != 118) = true := bne_iff_ne.mpr c41
                        by_cases c46 : (bt t349 x6_1) = 99
                        · rw [if_pos c46] at H
                          have c46b0 : ((bt t349 x6_1) == 99) = true := beq_iff_eq.mpr c46
                          have c46b1 : ((bt t349 x6_1) != 99) = false := bne_eq_false_iff_eq.mpr c46
                          clear c46
                          replace H := Option.bind_eq_some_iff.mp H
                          obtain ⟨⟨t356, t357⟩, A470, H⟩ := H
                          replace H : (if t357 = true then (if x4_1.size + 1 ≤ 9223372036854775807 then (if (x4_1 ++ (⟨#[32]⟩ : ByteArray)).size + t356.size ≤ 9223372036854775807 then (gharryref25_Print.l0 k1 ((x4_1 ++ (⟨#[32]⟩ : ByteArray)) ++ t356) t349 (wrap64 (x6_1 + 1)) a0_0 a0_1 a0_2 a0_3 a0_4 a0_5 a0_6 a0_7) else (none)) else (none)) else (some ((⟨#[]⟩ : ByteArray), 6))) = some (r1, r2) := H
                          have A47 := Aside0.mk A470
                          clear A470
                          by_cases c48 : t357 = true
                          · subst c48
                            have H1 : (if x4_1.size + 1 ≤ 9223372036854775807 then (if (x4_1 ++ (⟨#[32]⟩ : ByteArray)).size + t356.size ≤ 9223372036854775807 then (gharryref25_Print.l0 k1 ((x4_1 ++ (⟨#[32]⟩ : ByteArray)) ++ t356) t349 (wrap64 (x6_1 + 1)) a0_0 a0_1 a0_2 a0_3 a0_4 a0_5 a0_6 a0_7) else (none)) else (none)) = some (r1, r2) := by rw [if_pos rfl] at H; exact H
                            clear H
                            have H := H1
                            clear H1
                            by_cases c49 : x4_1.size + 1 ≤ 9223372036854775807
                            · rw [if_pos c49] at H
                              have c49b0 := eq_true c49
                              have c49b1 : decide (x4_1.size + 1 ≤ 9223372036854775807) = true := decide_eq_true c49
                              try have c49b2 : (9223372036854775807 < x4_1.size + 1) = False := eq_false (Nat.not_lt.2 c49)
                              by_cases c50 : (x4_1 ++ (⟨#[32]⟩ : ByteArray)).size + t356.size ≤ 9223372036854775807
                              · rw [if_pos c50] at H
                                have c50b0 := eq_true c50
                                have c50b1 : decide ((x4_1 ++ (⟨#[32]⟩ : ByteArray)).size + t356.size ≤ 9223372036854775807) = true := decide_eq_true c50
                                try have c50b2 : (9223372036854775807 < (x4_1 ++ (⟨#[32]⟩ : ByteArray)).size + t356.size) = False := eq_false (Nat.not_lt.2 c50)
                                try have c50b8 : (9223372036854775807 < x4_1.size + 1 + t356.size) = False := eq_false (Nat.not_lt.2 (by have h_ := c50; simp only [ByteArray.size_append] at h_; exact h_))
                                have H' := Aside0.mk H
                                clear H
                                have p17 : 0 ≤ (x6_1 : Int) := of_decide_eq_true (by first | (with_reducible assumption) | assumption)
                                have q17 : x6_1 < (t349.size : Int) := of_decide_eq_true (by first | (with_reducible assumption) | assumption)
                                have hx17 := bt_at t349 x6_1
                                replace p17 := eq_true p17
                                replace q17 := eq_true q17
                                have hcz51_0 : wr.cell? ⟨gb343, 0, none⟩ = some (.int .i64 a0_0) := (blk_cell BK343.out 0).trans rfl
                                have hcz51_1 : wr.cell? ⟨gb343, 1, none⟩ = some (.int .i64 a0_1) := (blk_cell BK343.out 1).trans rfl
                                have hcz51_2 : wr.cell? ⟨gb343, 2, none⟩ = some (.int .i64 a0_2) := (blk_cell BK343.out 2).trans rfl
                                have hcz51_3 : wr.cell? ⟨gb343, 3, none⟩ = some (.int .i64 a0_3) := (blk_cell BK343.out 3).trans rfl
                                have hcz51_4 : wr.cell? ⟨gb343, 4, none⟩ = some (.int .u64 a0_4) := (blk_cell BK343.out 4).trans rfl
                                have hcz51_5 : wr.cell? ⟨gb343, 5, none⟩ = some (.string a0_5) := (blk_cell BK343.out 5).trans rfl
                                have hcz51_6 : wr.cell? ⟨gb343, 6, none⟩ = some (.string a0_6) := (blk_cell BK343.out 6).trans rfl
                                have hcz51_7 : wr.cell? ⟨gb343, 7, none⟩ = some (.bool a0_7) := (blk_cell BK343.out 7).trans rfl
                                have hfz51_0 := blk_frozen BK343.out 0
                                have hfz51_1 := blk_frozen BK343.out 1
                                have hfz51_2 := blk_frozen BK343.out 2
                                have hfz51_3 := blk_frozen BK343.out 3
                                have hfz51_4 := blk_frozen BK343.out 4
                                have hfz51_5 := blk_frozen BK343.out 5
                                have hfz51_6 := blk_frozen BK343.out 6
                                have hfz51_7 := blk_frozen BK343.out 7
                                go_wp2_with (first | ((with_reducible refine gate_callee (f := 44) rfl ?_); refine goesL_ (some 63) rfl rfl Tryd.func44 (by kernel_rfl) rfl #[.int .i64 a0_3] rfl (by (try simp only [List.map_toArray, List.map_cons, List.map_nil]); first | done | rfl | (simp only [List.length_drop, List.length_take]; rfl)) ?_; (with_reducible refine (gharryref25_number.calls a0_3 t356 true _ A47.out).mono ?_); rintro e w52 ⟨rfl, hb⟩; refine ⟨_, rfl, ?_⟩; have n0_ := Aside0.mk (blk_below (g := gb343) (o := .cells #[.int .i64 a0_0, .int .i64 a0_1, .int .i64 a0_2, .int .i64 a0_3, .int .u64 a0_4, .string a0_5, .string a0_6, .bool a0_7] 32 (0, 0)) (by (with_reducible repeat (first | refine blk_drewN ?_ _ | refine blk_drew ?_ | refine blk_alloc ?_ _)); exact BK343.out) hb); have n1_ := Aside0.mk (below_step (by repeat (first | (with_reducible first | exact HB.out | apply below_alloc | apply pw_below_drewN | apply below_drew1 | refine below_set ?_ GE343.out) | exact HB.out)) hb); clear BK343; clear HB; have BK343 := n0_; have HB := n1_; clear n0_ n1_; (try clear hb); (try clear hb2); (try clear hk); (try clear hi)))
                                go_roundg k1
                                case measure => have := HK1.out; omega
                                case rel => exact ⟨((x4_1 ++ (⟨#[32]⟩ : ByteArray)) ++ t356), (wrap64 (x6_1 + 1)), (by first | rfl | (simp; done) | (simp [*]; done)), (by first | rfl | (simp; done) | (simp [*]; done)), H', ⟨by have := HK1.out; omega⟩, ⟨by (with_reducible repeat (first | refine blk_drewN ?_ _ | refine blk_drew ?_ | refine blk_alloc ?_ _)); exact BK343.out⟩, ⟨by repeat (first | (with_reducible first | exact HB.out | apply below_alloc | apply pw_below_drewN | apply below_drew1 | refine below_set ?_ GE343.out) | exact HB.out)⟩⟩
                              · rw [if_neg c50] at H
                                exact absurd H (by simp)
                            · rw [if_neg c49] at H
                              exact absurd H (by simp)
                          · replace c48 := Bool.eq_false_iff.mpr c48
                            subst c48
                            have H1 : (some ((⟨#[]⟩ : ByteArray), 6)) = some (r1, r2) := by rw [if_neg (show ¬ (false = true) by decide)] at H; exact H
                            clear H
                            have H := H1
                            clear H1
                            simp only [Option.some.injEq, Prod.mk.injEq] at H
                            obtain ⟨rfl, rfl⟩ := H
                            have p17 : 0 ≤ (x6_1 : Int) := of_decide_eq_true (by first | (with_reducible assumption) | assumption)
                            have q17 : x6_1 < (t349.size : Int) := of_decide_eq_true (by first | (with_reducible assumption) | assumption)
                            have hx17 := bt_at t349 x6_1
                            replace p17 := eq_true p17
                            replace q17 := eq_true q17
                            have hcz53_0 : wr.cell? ⟨gb343, 0, none⟩ = some (.int .i64 a0_0) := (blk_cell BK343.out 0).trans rfl
                            have hcz53_1 : wr.cell? ⟨gb343, 1, none⟩ = some (.int .i64 a0_1) := (blk_cell BK343.out 1).trans rfl
                            have hcz53_2 : wr.cell? ⟨gb343, 2, none⟩ = some (.int .i64 a0_2) := (blk_cell BK343.out 2).trans rfl
                            have hcz53_3 : wr.cell? ⟨gb343, 3, none⟩ = some (.int .i64 a0_3) := (blk_cell BK343.out 3).trans rfl
                            have hcz53_4 : wr.cell? ⟨gb343, 4, none⟩ = some (.int .u64 a0_4) := (blk_cell BK343.out 4).trans rfl
                            have hcz53_5 : wr.cell? ⟨gb343, 5, none⟩ = some (.string a0_5) := (blk_cell BK343.out 5).trans rfl
                            have hcz53_6 : wr.cell? ⟨gb343, 6, none⟩ = some (.string a0_6) := (blk_cell BK343.out 6).trans rfl
                            have hcz53_7 : wr.cell? ⟨gb343, 7, none⟩ = some (.bool a0_7) := (blk_cell BK343.out 7).trans rfl
                            have hfz53_0 := blk_frozen BK343.out 0
                            have hfz53_1 := blk_frozen BK343.out 1
                            have hfz53_2 := blk_frozen BK343.out 2
                            have hfz53_3 := blk_frozen BK343.out 3
                            have hfz53_4 := blk_frozen BK343.out 4
                            have hfz53_5 := blk_frozen BK343.out 5
                            have hfz53_6 := blk_frozen BK343.out 6
                            have hfz53_7 := blk_frozen BK343.out 7
                            go_wp2_with (first | ((with_reducible refine gate_callee (f := 44) rfl ?_); refine goesL_ (some 63) rfl rfl Tryd.func44 (by kernel_rfl) rfl #[.int .i64 a0_3] rfl (by (try simp only [List.map_toArray, List.map_cons, List.map_nil]); first | done | rfl | (simp only [List.length_drop, List.length_take]; rfl)) ?_; (with_reducible refine (gharryref25_number.calls a0_3 t356 false _ A47.out).mono ?_); rintro e w54 ⟨rfl, hb⟩; refine ⟨_, rfl, ?_⟩; have n0_ := Aside0.mk (blk_below (g := gb343) (o := .cells #[.int .i64 a0_0, .int .i64 a0_1, .int .i64 a0_2, .int .i64 a0_3, .int .u64 a0_4, .string a0_5, .string a0_6, .bool a0_7] 32 (0, 0)) (by (with_reducible repeat (first | refine blk_drewN ?_ _ | refine blk_drew ?_ | refine blk_alloc ?_ _)); exact BK343.out) hb); have n1_ := Aside0.mk (below_step (by repeat (first | (with_reducible first | exact HB.out | apply below_alloc | apply pw_below_drewN | apply below_drew1 | refine below_set ?_ GE343.out) | exact HB.out)) hb); clear BK343; clear HB; have BK343 := n0_; have HB := n1_; clear n0_ n1_; (try clear hb); (try clear hb2); (try clear hk); (try clear hi)))
                            go_ret2
                            exact ⟨by first | rfl | (simp [errW_none, errW_some] <;> rfl) | (simp [*, errW_none, errW_some] <;> rfl), by repeat (first | (with_reducible first | exact HB.out | apply below_alloc | apply pw_below_drewN | apply below_drew1 | refine below_set ?_ GE343.out) | exact HB.out)⟩
                        · rw [if_neg c46] at H
                          have c46b0 : ((bt t349 x6_1) == 99) = false := beq_eq_false_iff_ne.mpr c46
                          have c46b1 : ((bt t349 x6_1) != 99) = true := bne_iff_ne.mpr c46
                          by_cases c55 : (bt t349 x6_1) = 109
                          · rw [if_pos c55] at H
                            have c55b0 : ((bt t349 x6_1) == 109) = true := beq_iff_eq.mpr c55
                            have c55b1 : ((bt t349 x6_1) != 109) = false := bne_eq_false_iff_eq.mpr c55
                            clear c55
                            replace H := Option.bind_eq_some_iff.mp H
                            obtain ⟨t358, A560, H⟩ := H
                            replace H : (if x4_1.size + 1 ≤ 9223372036854775807 then (if (x4_1 ++ (⟨#[32]⟩ : ByteArray)).size + t358.size ≤ 9223372036854775807 then (gharryref25_Print.l0 k1 ((x4_1 ++ (⟨#[32]⟩ : ByteArray)) ++ t358) t349 (wrap64 (x6_1 + 1)) a0_0 a0_1 a0_2 a0_3 a0_4 a0_5 a0_6 a0_7) else (none)) else (none)) = some (r1, r2) := H
                            have A56 := Aside0.mk A560
                            clear A560
                            by_cases c57 : x4_1.size + 1 ≤ 9223372036854775807
                            · rw [if_pos c57] at H
                              have c57b0 := eq_true c57
                              have c57b1 : decide (x4_1.size + 1 ≤ 9223372036854775807) = true := decide_eq_true c57
                              try have c57b2 : (9223372036854775807 < x4_1.size + 1) = False := eq_false (Nat.not_lt.2 c57)
                              by_cases c58 : (x4_1 ++ (⟨#[32]⟩ : ByteArray)).size + t358.size ≤ 9223372036854775807
                              · rw [if_pos c58] at H
                                have c58b0 := eq_true c58
                                have c58b1 : decide ((x4_1 ++ (⟨#[32]⟩ : ByteArray)).size + t358.size ≤ 9223372036854775807) = true := decide_eq_true c58
                                try have c58b2 : (9223372036854775807 < (x4_1 ++ (⟨#[32]⟩ : ByteArray)).size + t358.size) = False := eq_false (Nat.not_lt.2 c58)
                                try have c58b8 : (9223372036854775807 < x4_1.size + 1 + t358.size) = False := eq_false (Nat.not_lt.2 (by have h_ := c58; simp only [ByteArray.size_append] at h_; exact h_))
                                have H' := Aside0.mk H
                                clear H
                                have p17 : 0 ≤ (x6_1 : Int) := of_decide_eq_true (by first | (with_reducible assumption) | assumption)
                                have q17 : x6_1 < (t349.size : Int) := of_decide_eq_true (by first | (with_reducible assumption) | assumption)
                                have hx17 := bt_at t349 x6_1
                                replace p17 := eq_true p17
                                replace q17 := eq_true q17
                                have hcz59_0 : wr.cell? ⟨gb343, 0, none⟩ = some (.int .i64 a0_0) := (blk_cell BK343.out 0).trans rfl
                                have hcz59_1 : wr.cell? ⟨gb343, 1, none⟩ = some (.int .i64 a0_1) := (blk_cell BK343.out 1).trans rfl
                                have hcz59_2 : wr.cell? ⟨gb343, 2, none⟩ = some (.int .i64 a0_2) := (blk_cell BK343.out 2).trans rfl
                                have hcz59_3 : wr.cell? ⟨gb343, 3, none⟩ = some (.int .i64 a0_3) := (blk_cell BK343.out 3).trans rfl
                                have hcz59_4 : wr.cell? ⟨gb343, 4, none⟩ = some (.int .u64 a0_4) := (blk_cell BK343.out 4).trans rfl
                                have hcz59_5 : wr.cell? ⟨gb343, 5, none⟩ = some (.string a0_5) := (blk_cell BK343.out 5).trans rfl
                                have hcz59_6 : wr.cell? ⟨gb343, 6, none⟩ = some (.string a0_6) := (blk_cell BK343.out 6).trans rfl
                                have hcz59_7 : wr.cell? ⟨gb343, 7, none⟩ = some (.bool a0_7) := (blk_cell BK343.out 7).trans rfl
                                have hfz59_0 := blk_frozen BK343.out 0
                                have hfz59_1 := blk_frozen BK343.out 1
                                have hfz59_2 := blk_frozen BK343.out 2
                                have hfz59_3 := blk_frozen BK343.out 3
                                have hfz59_4 := blk_frozen BK343.out 4
                                have hfz59_5 := blk_frozen BK343.out 5
                                have hfz59_6 := blk_frozen BK343.out 6
                                have hfz59_7 := blk_frozen BK343.out 7
                                go_wp2_with (first | ((with_reducible refine gate_callee (f := 45) rfl ?_); refine goesL_ (some 70) rfl rfl Tryd.func45 (by kernel_rfl) rfl #[.int .u64 a0_4] rfl (by (try simp only [List.map_toArray, List.map_cons, List.map_nil]); first | done | rfl | (simp only [List.length_drop, List.length_take]; rfl)) ?_; (with_reducible refine (gharryref25_Number.calls a0_4 t358 _ A56.out).mono ?_); rintro e w60 ⟨rfl, hb⟩; refine ⟨_, rfl, ?_⟩; have n0_ := Aside0.mk (blk_below (g := gb343) (o := .cells #[.int .i64 a0_0, .int .i64 a0_1, .int .i64 a0_2, .int .i64 a0_3, .int .u64 a0_4, .string a0_5, .string a0_6, .bool a0_7] 32 (0, 0)) (by (with_reducible repeat (first | refine blk_drewN ?_ _ | refine blk_drew ?_ | refine blk_alloc ?_ _)); exact BK343.out) hb); have n1_ := Aside0.mk (below_step (by repeat (first | (with_reducible first | exact HB.out | apply below_alloc | apply pw_below_drewN | apply below_drew1 | refine below_set ?_ GE343.out) | exact HB.out)) hb); clear BK343; clear HB; have BK343 := n0_; have HB := n1_; clear n0_ n1_; (try clear hb); (try clear hb2); (try clear hk); (try clear hi)))
                                go_roundg k1
                                case measure => have := HK1.out; omega
                                case rel => exact ⟨((x4_1 ++ (⟨#[32]⟩ : ByteArray)) ++ t358), (wrap64 (x6_1 + 1)), (by first | rfl | (simp; done) | (simp [*]; done)), (by first | rfl | (simp; done) | (simp [*]; done)), H', ⟨by have := HK1.out; omega⟩, ⟨by (with_reducible repeat (first | refine blk_drewN ?_ _ | refine blk_drew ?_ | refine blk_alloc ?_ _)); exact BK343.out⟩, ⟨by repeat (first | (with_reducible first | exact HB.out | apply below_alloc | apply pw_below_drewN | apply below_drew1 | refine below_set ?_ GE343.out) | exact HB.out)⟩⟩
                              · rw [if_neg c58] at H
                                exact absurd H (by simp)
                            · rw [if_neg c57] at H
                              exact absurd H (by simp)
                          · rw [if_neg c55] at H
                            have c55b0 : ((bt t349 x6_1) == 109) = false := beq_eq_false_iff_ne.mpr c55
                            have c55b1 : ((bt t349 x6_1) != 109) = true := bne_iff_ne.mpr c55
                            by_cases c61 : a0_7 = true
                            · subst c61
                              have H1 : (if x4_1.size + 1 ≤ 9223372036854775807 then (if (x4_1 ++ (⟨#[32]⟩ : ByteArray)).size + 4 ≤ 9223372036854775807 then (gharryref25_Print.l0 k1 ((x4_1 ++ (⟨#[32]⟩ : ByteArray)) ++ (⟨#[98, 111, 116, 104]⟩ : ByteArray)) t349 (wrap64 (x6_1 + 1)) a0_0 a0_1 a0_2 a0_3 a0_4 a0_5 a0_6 true) else (none)) else (none)) = some (r1, r2) := by rw [if_pos rfl] at H; exact H
                              clear H
                              have H := H1
                              clear H1
                              by_cases c62 : x4_1.size + 1 ≤ 9223372036854775807
                              · rw [if_pos c62] at H
                                have c62b0 := eq_true c62
                                have c62b1 : decide (x4_1.size + 1 ≤ 9223372036854775807) = true := decide_eq_true c62
                                try have c62b2 : (9223372036854775807 < x4_1.size + 1) = False := eq_false (Nat.not_lt.2 c62)
                                by_cases c63 : (x4_1 ++ (⟨#[32]⟩ : ByteArray)).size + 4 ≤ 9223372036854775807
                                · rw [if_pos c63] at H
                                  have c63b0 := eq_true c63
                                  have c63b1 : decide ((x4_1 ++ (⟨#[32]⟩ : ByteArray)).size + 4 ≤ 9223372036854775807) = true := decide_eq_true c63
                                  try have c63b2 : (9223372036854775807 < (x4_1 ++ (⟨#[32]⟩ : ByteArray)).size + 4) = False := eq_false (Nat.not_lt.2 c63)
                                  try have c63b8 : (9223372036854775807 < x4_1.size + 1 + 4) = False := eq_false (Nat.not_lt.2 (by have h_ := c63; simp only [ByteArray.size_append] at h_; exact h_))
                                  have H' := Aside0.mk H
                                  clear H
                                  have p17 : 0 ≤ (x6_1 : Int) := of_decide_eq_true (by first | (with_reducible assumption) | assumption)
                                  have q17 : x6_1 < (t349.size : Int) := of_decide_eq_true (by first | (with_reducible assumption) | assumption)
                                  have hx17 := bt_at t349 x6_1
                                  replace p17 := eq_true p17
                                  replace q17 := eq_true q17
                                  have hcz64_0 : wr.cell? ⟨gb343, 0, none⟩ = some (.int .i64 a0_0) := (blk_cell BK343.out 0).trans rfl
                                  have hcz64_1 : wr.cell? ⟨gb343, 1, none⟩ = some (.int .i64 a0_1) := (blk_cell BK343.out 1).trans rfl
                                  have hcz64_2 : wr.cell? ⟨gb343, 2, none⟩ = some (.int .i64 a0_2) := (blk_cell BK343.out 2).trans rfl
                                  have hcz64_3 : wr.cell? ⟨gb343, 3, none⟩ = some (.int .i64 a0_3) := (blk_cell BK343.out 3).trans rfl
                                  have hcz64_4 : wr.cell? ⟨gb343, 4, none⟩ = some (.int .u64 a0_4) := (blk_cell BK343.out 4).trans rfl
                                  have hcz64_5 : wr.cell? ⟨gb343, 5, none⟩ = some (.string a0_5) := (blk_cell BK343.out 5).trans rfl
                                  have hcz64_6 : wr.cell? ⟨gb343, 6, none⟩ = some (.string a0_6) := (blk_cell BK343.out 6).trans rfl
                                  have hcz64_7 : wr.cell? ⟨gb343, 7, none⟩ = some (.bool true) := (blk_cell BK343.out 7).trans rfl
                                  have hfz64_0 := blk_frozen BK343.out 0
                                  have hfz64_1 := blk_frozen BK343.out 1
                                  have hfz64_2 := blk_frozen BK343.out 2
                                  have hfz64_3 := blk_frozen BK343.out 3
                                  have hfz64_4 := blk_frozen BK343.out 4
                                  have hfz64_5 := blk_frozen BK343.out 5
                                  have hfz64_6 := blk_frozen BK343.out 6
                                  have hfz64_7 := blk_frozen BK343.out 7
                                  go_wp2
                                  go_roundg k1
                                  case measure => have := HK1.out; omega
                                  case rel => exact ⟨((x4_1 ++ (⟨#[32]⟩ : ByteArray)) ++ (⟨#[98, 111, 116, 104]⟩ : ByteArray)), (wrap64 (x6_1 + 1)), (by first | rfl | (simp; done) | (simp [*]; done)), (by first | rfl | (simp; done) | (simp [*]; done)), H', ⟨by have := HK1.out; omega⟩, ⟨by (with_reducible repeat (first | refine blk_drewN ?_ _ | refine blk_drew ?_ | refine blk_alloc ?_ _)); exact BK343.out⟩, ⟨by repeat (first | (with_reducible first | exact HB.out | apply below_alloc | apply pw_below_drewN | apply below_drew1 | refine below_set ?_ GE343.out) | exact HB.out)⟩⟩
                                · rw [if_neg c63] at H
                                  exact absurd H (by simp)
                              · rw [if_neg c62] at H
                                exact absurd H (by simp)
                            · replace c61 := Bool.eq_false_iff.mpr c61
                              subst c61
                              have H1 : (if x4_1.size + 1 ≤ 9223372036854775807 then (if (x4_1 ++ (⟨#[32]⟩ : ByteArray)).size + 3 ≤ 9223372036854775807 then (gharryref25_Print.l0 k1 ((x4_1 ++ (⟨#[32]⟩ : ByteArray)) ++ (⟨#[111, 110, 101]⟩ : ByteArray)) t349 (wrap64 (x6_1 + 1)) a0_0 a0_1 a0_2 a0_3 a0_4 a0_5 a0_6 false) else (none)) else (none)) = some (r1, r2) := by rw [if_neg (show ¬ (false = true) by decide)] at H; exact H
                              clear H
                              have H := H1
                              clear H1
                              by_cases c65 : x4_1.size + 1 ≤ 9223372036854775807
                              · rw [if_pos c65] at H
                                have c65b0 := eq_true c65
                                have c65b1 : decide (x4_1.size + 1 ≤ 9223372036854775807) = true := decide_eq_true c65
                                try have c65b2 : (9223372036854775807 < x4_1.size + 1) = False := eq_false (Nat.not_lt.2 c65)
                                by_cases c66 : (x4_1 ++ (⟨#[32]⟩ : ByteArray)).size + 3 ≤ 9223372036854775807
                                · rw [if_pos c66] at H
                                  have c66b0 := eq_true c66
                                  have c66b1 : decide ((x4_1 ++ (⟨#[32]⟩ : ByteArray)).size + 3 ≤ 9223372036854775807) = true := decide_eq_true c66
                                  try have c66b2 : (9223372036854775807 < (x4_1 ++ (⟨#[32]⟩ : ByteArray)).size + 3) = False := eq_false (Nat.not_lt.2 c66)
                                  try have c66b8 : (9223372036854775807 < x4_1.size + 1 + 3) = False := eq_false (Nat.not_lt.2 (by have h_ := c66; simp only [ByteArray.size_append] at h_; exact h_))
                                  have H' := Aside0.mk H
                                  clear H
                                  have p17 : 0 ≤ (x6_1 : Int) := of_decide_eq_true (by first | (with_reducible assumption) | assumption)
                                  have q17 : x6_1 < (t349.size : Int) := of_decide_eq_true (by first | (with_reducible assumption) | assumption)
                                  have hx17 := bt_at t349 x6_1
                                  replace p17 := eq_true p17
                                  replace q17 := eq_true q17
                                  have hcz67_0 : wr.cell? ⟨gb343, 0, none⟩ = some (.int .i64 a0_0) := (blk_cell BK343.out 0).trans rfl
                                  have hcz67_1 : wr.cell? ⟨gb343, 1, none⟩ = some (.int .i64 a0_1) := (blk_cell BK343.out 1).trans rfl
                                  have hcz67_2 : wr.cell? ⟨gb343, 2, none⟩ = some (.int .i64 a0_2) := (blk_cell BK343.out 2).trans rfl
                                  have hcz67_3 : wr.cell? ⟨gb343, 3, none⟩ = some (.int .i64 a0_3) := (blk_cell BK343.out 3).trans rfl
                                  have hcz67_4 : wr.cell? ⟨gb343, 4, none⟩ = some (.int .u64 a0_4) := (blk_cell BK343.out 4).trans rfl
                                  have hcz67_5 : wr.cell? ⟨gb343, 5, none⟩ = some (.string a0_5) := (blk_cell BK343.out 5).trans rfl
                                  have hcz67_6 : wr.cell? ⟨gb343, 6, none⟩ = some (.string a0_6) := (blk_cell BK343.out 6).trans rfl
                                  have hcz67_7 : wr.cell? ⟨gb343, 7, none⟩ = some (.bool false) := (blk_cell BK343.out 7).trans rfl
                                  have hfz67_0 := blk_frozen BK343.out 0
                                  have hfz67_1 := blk_frozen BK343.out 1
                                  have hfz67_2 := blk_frozen BK343.out 2
                                  have hfz67_3 := blk_frozen BK343.out 3
                                  have hfz67_4 := blk_frozen BK343.out 4
                                  have hfz67_5 := blk_frozen BK343.out 5
                                  have hfz67_6 := blk_frozen BK343.out 6
                                  have hfz67_7 := blk_frozen BK343.out 7
                                  go_wp2
                                  go_roundg k1
                                  case measure => have := HK1.out; omega
                                  case rel => exact ⟨((x4_1 ++ (⟨#[32]⟩ : ByteArray)) ++ (⟨#[111, 110, 101]⟩ : ByteArray)), (wrap64 (x6_1 + 1)), (by first | rfl | (simp; done) | (simp [*]; done)), (by first | rfl | (simp; done) | (simp [*]; done)), H', ⟨by have := HK1.out; omega⟩, ⟨by (with_reducible repeat (first | refine blk_drewN ?_ _ | refine blk_drew ?_ | refine blk_alloc ?_ _)); exact BK343.out⟩, ⟨by repeat (first | (with_reducible first | exact HB.out | apply below_alloc | apply pw_below_drewN | apply below_drew1 | refine below_set ?_ GE343.out) | exact HB.out)⟩⟩
                                · rw [if_neg c66] at H
                                  exact absurd H (by simp)
                              · rw [if_neg c65] at H
                                exact absurd H (by simp)
              · rw [if_neg c16] at H
                exact absurd H (by simp)
            · rw [if_neg c15] at H
              have c15b0 : decide (x6_1 < (t349.size : Int)) = false := decide_eq_false c15
              clear c15
              simp only [Option.some.injEq, Prod.mk.injEq] at H
              obtain ⟨rfl, rfl⟩ := H
              go_wp2
              go_ret2
              exact ⟨by first | rfl | (simp [errW_none, errW_some] <;> rfl) | (simp [*, errW_none, errW_some] <;> rfl), by repeat (first | (with_reducible first | exact HB.out | apply below_alloc | apply pw_below_drewN | apply below_drew1 | refine below_set ?_ GE343.out) | exact HB.out)⟩
      · rw [if_neg c6] at H
        exact absurd H (by simp)
    · rw [if_neg c5] at H
      exact absurd H (by simp)
  · replace c3 := Bool.eq_false_iff.mpr c3
    subst c3
    have H1 : (some ((⟨#[]⟩ : ByteArray), 1)) = some (r1, r2) := by rw [if_neg (show ¬ (false = true) by decide)] at H; exact H
    clear H
    have H := H1
    clear H1
    simp only [Option.some.injEq, Prod.mk.injEq] at H
    obtain ⟨rfl, rfl⟩ := H
    go_enter Tryd.func25, Tryd.ntmps25
    go_wp2_with (first | ((with_reducible refine gate_dst (N := 1) rfl ?_); refine box_event ?hg (N := 1) ?hd (cs := #[.int .i64 a0_0, .int .i64 a0_1, .int .i64 a0_2, .int .i64 a0_3, .int .u64 a0_4, .string a0_5, .string a0_6, .bool a0_7]) (t := 32) ?hr ?_; (case hd => rfl); (case hg => rfl); (case hr => first | (go_simp; done) | (go_simp; rfl)); intro gb343 hg w68 hbox hb; have n0_ := Aside0.mk (below_step (by repeat (first | (with_reducible first | exact HB.out | apply below_alloc | apply pw_below_drewN | apply below_drew1) | exact HB.out)) hb); have n1_ := Aside0.mk (hbox); have n2_ := Aside0.mk ((by rw [hg]; exact (below_size (by repeat (first | (with_reducible first | exact HB.out | apply below_alloc | apply pw_below_drewN | apply below_drew1) | exact HB.out))) : w.heap.size ≤ gb343)); have n3_ := Aside0.mk ((by rw [hg]; exact (below_size (by repeat (first | (with_reducible first | exact HB.out | apply below_alloc | apply pw_below_drewN | apply below_drew1) | exact HB.out))) : w.heap.size ≤ gb343)); clear HB; have HB := n0_; have BK343 := n1_; have GW343 := n2_; have GE343 := n3_; clear n0_ n1_ n2_ n3_; clear hb hbox hg; have hcz69_0 : w68.cell? ⟨gb343, 0, none⟩ = some (.int .i64 a0_0) := (blk_cell BK343.out 0).trans rfl; have hcz69_1 : w68.cell? ⟨gb343, 1, none⟩ = some (.int .i64 a0_1) := (blk_cell BK343.out 1).trans rfl; have hcz69_2 : w68.cell? ⟨gb343, 2, none⟩ = some (.int .i64 a0_2) := (blk_cell BK343.out 2).trans rfl; have hcz69_3 : w68.cell? ⟨gb343, 3, none⟩ = some (.int .i64 a0_3) := (blk_cell BK343.out 3).trans rfl; have hcz69_4 : w68.cell? ⟨gb343, 4, none⟩ = some (.int .u64 a0_4) := (blk_cell BK343.out 4).trans rfl; have hcz69_5 : w68.cell? ⟨gb343, 5, none⟩ = some (.string a0_5) := (blk_cell BK343.out 5).trans rfl; have hcz69_6 : w68.cell? ⟨gb343, 6, none⟩ = some (.string a0_6) := (blk_cell BK343.out 6).trans rfl; have hcz69_7 : w68.cell? ⟨gb343, 7, none⟩ = some (.bool a0_7) := (blk_cell BK343.out 7).trans rfl; have hfz69_0 := blk_frozen BK343.out 0; have hfz69_1 := blk_frozen BK343.out 1; have hfz69_2 := blk_frozen BK343.out 2; have hfz69_3 := blk_frozen BK343.out 3; have hfz69_4 := blk_frozen BK343.out 4; have hfz69_5 := blk_frozen BK343.out 5; have hfz69_6 := blk_frozen BK343.out 6; have hfz69_7 := blk_frozen BK343.out 7) | ((with_reducible refine gate_callee (f := 37) rfl ?_); refine goesL_ (some 11) rfl rfl Tryd.func37 (by kernel_rfl) rfl #[.int .i64 a0_0] rfl (by (try simp only [List.map_toArray, List.map_cons, List.map_nil]); first | done | rfl | (simp only [List.length_drop, List.length_take]; rfl)) ?_; (with_reducible refine (gharryref25_known.calls a0_0 false _ A2.out).mono ?_); rintro e w' ⟨rfl, ⟨nd, rfl⟩⟩; refine ⟨_, rfl, ?_⟩))
    go_ret2
    exact ⟨by first | rfl | (simp [errW_none, errW_some] <;> rfl) | (simp [*, errW_none, errW_some] <;> rfl), by repeat (first | (with_reducible first | exact HB.out | apply below_alloc | apply pw_below_drewN | apply below_drew1 | refine below_set ?_ GE343.out) | exact HB.out)⟩

end Go.Proofs.YtflbkgpmepfhlaaDoor.HSay
