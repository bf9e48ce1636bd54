import Derived.Test.YtflbkgpmepfhlaaDoorFtypes
import Derived.Test.YtflbkgpmepfhlaaDoorFsayform
namespace Go.Proofs.YtflbkgpmepfhlaaDoor.HSay
open Go.RowKit Go.Proofs.YtflbkgpmepfhlaaDoor.Hook Go.Proofs.YtflbkgpmepfhlaaDoorW.PrintWords Go.Proofs.YtflbkgpmepfhlaaDoorW.PrintLast Go.Proofs.YtflbkgpmepfhlaaDoorW.PrintMore
attribute [local go_sem] max2_int min2_int max_two min_two max_three min_three max_four min_four   -- for this text's walks alone
set_option linter.unusedVariables false
set_option linter.unusedSimpArgs false




def say_Clean.l0 : Nat → List Int → Int → Int → Int → Int → Int → Int → Int → ByteArray → ByteArray → Bool → Int → Int → Int → Int → Int → ByteArray → ByteArray → Bool → Option (Int × Int × Int × Int × Int × ByteArray × ByteArray × Bool)
  | 0, _, _, _, _, _, _, _, _, _, _, _, _, _, _, _, _, _, _, _ => none
  | k + 1, x17, x18, x19, x203000, x203001, x203002, x203003, x203004, x203005, x203006, x203007, x205000, x205001, x205002, x205003, x205004, x205005, x205006, x205007 => if x19 < x18 then (if 0 ≤ x19 then (if x19 < (x17.length : Int) then (if (rd x17 x19) = 1 then (say_Clean.l0 k x17 x18 (wrap64 (x19 + 1)) x203000 x203001 x203002 x203003 x203004 x203005 x203006 x203007 x205000 x205001 x203002 x205003 x205004 x205005 x205006 x205007) else (if (rd x17 x19) = 2 then (say_Clean.l0 k x17 x18 (wrap64 (x19 + 1)) x203000 x203001 x203002 x203003 x203004 x203005 x203006 x203007 x205000 x203001 x205002 x205003 x205004 x205005 x205006 x205007) else (if (rd x17 x19) = 3 then (say_Clean.l0 k x17 x18 (wrap64 (x19 + 1)) x203000 x203001 x203002 x203003 x203004 x203005 x203006 x203007 x205000 x205001 x205002 x203003 x205004 x205005 x205006 x205007) else (if (rd x17 x19) = 4 then (say_Clean.l0 k x17 x18 (wrap64 (x19 + 1)) x203000 x203001 x203002 x203003 x203004 x203005 x203006 x203007 x205000 x205001 x205002 x205003 x203004 x205005 x205006 x205007) else (if (rd x17 x19) = 5 then (say_Clean.l0 k x17 x18 (wrap64 (x19 + 1)) x203000 x203001 x203002 x203003 x203004 x203005 x203006 x203007 x205000 x205001 x205002 x205003 x205004 x203005 x205006 x205007) else (if (rd x17 x19) = 6 then (say_Clean.l0 k x17 x18 (wrap64 (x19 + 1)) x203000 x203001 x203002 x203003 x203004 x203005 x203006 x203007 x205000 x205001 x205002 x205003 x205004 x205005 x203006 x205007) else (if (rd x17 x19) = 7 then (say_Clean.l0 k x17 x18 (wrap64 (x19 + 1)) x203000 x203001 x203002 x203003 x203004 x203005 x203006 x203007 x205000 x205001 x205002 x205003 x205004 x205005 x205006 x203007) else (say_Clean.l0 k x17 x18 (wrap64 (x19 + 1)) x203000 x203001 x203002 x203003 x203004 x203005 x203006 x203007 x205000 x205001 x205002 x205003 x205004 x205005 x205006 x205007)))))))) else (none)) else (none)) else (some (x205000, x205001, x205002, x205003, x205004, x205005, x205006, x205007))
def say_Clean.f (k : Nat) (a0_0 : Int) (a0_1 : Int) (a0_2 : Int) (a0_3 : Int) (a0_4 : Int) (a0_5 : ByteArray) (a0_6 : ByteArray) (a0_7 : Bool) : Option (Int × Int × Int × Int × Int × ByteArray × ByteArray × Bool) := (say_form.f a0_0).bind fun bt205 => (say_Clean.l0 k bt205.2 (bt205.2.length : Int) 0 a0_0 a0_1 a0_2 a0_3 a0_4 a0_5 a0_6 a0_7 a0_0 0 0 0 0 (⟨#[]⟩ : ByteArray) (⟨#[]⟩ : ByteArray) false)
theorem say_Clean.mono_l : ∀ k, (∀ y0 y1 y2 y3 y4 y5 y6 y7 y8 y9 y10 y11 y12 y13 y14 y15 y16 y17 y18, LeO (say_Clean.l0 k y0 y1 y2 y3 y4 y5 y6 y7 y8 y9 y10 y11 y12 y13 y14 y15 y16 y17 y18) (say_Clean.l0 (k + 1) y0 y1 y2 y3 y4 y5 y6 y7 y8 y9 y10 y11 y12 y13 y14 y15 y16 y17 y18))
  | 0 => fun _ _ _ _ _ _ _ _ _ _ _ _ _ _ _ _ _ _ _ r h => by simp [say_Clean.l0] at h
  | k + 1 => by
    have ih0 := say_Clean.mono_l k
    · intro y0 y1 y2 y3 y4 y5 y6 y7 y8 y9 y10 y11 y12 y13 y14 y15 y16 y17 y18
      unfold say_Clean.l0
      repeat' first
      | (with_reducible exact ih0 _ _ _ _ _ _ _ _ _ _ _ _ _ _ _ _ _ _ _)
      | (with_reducible exact LeO.refl _)
      | (with_reducible exact LeO.none _)
      | (with_reducible refine LeO.ite ?_ ?_)
      | (with_reducible refine LeO.bind ?_ (fun _ => ?_))
      | exact ih0 _ _ _ _ _ _ _ _ _ _ _ _ _ _ _ _ _ _ _
      | exact LeO.none _
      | refine LeO.ite ?_ ?_
      | refine LeO.bind ?_ (fun _ => ?_)
theorem say_Clean.mono : ∀ a0 a1 a2 a3 a4 a5 a6 a7 k, LeO (say_Clean.f k a0 a1 a2 a3 a4 a5 a6 a7) (say_Clean.f (k + 1) a0 a1 a2 a3 a4 a5 a6 a7) := by
  intro a0 a1 a2 a3 a4 a5 a6 a7 k
  have ih0 := say_Clean.mono_l k
  unfold say_Clean.f
  repeat' first
      | (with_reducible exact ih0 _ _ _ _ _ _ _ _ _ _ _ _ _ _ _ _ _ _ _)
      | (with_reducible exact LeO.refl _)
      | (with_reducible exact LeO.none _)
      | (with_reducible refine LeO.ite ?_ ?_)
      | (with_reducible refine LeO.bind ?_ (fun _ => ?_))
      | exact ih0 _ _ _ _ _ _ _ _ _ _ _ _ _ _ _ _ _ _ _
      | exact LeO.none _
      | refine LeO.ite ?_ ?_
      | refine LeO.bind ?_ (fun _ => ?_)
set_option maxHeartbeats 8000000 in
set_option maxRecDepth 100000 in
theorem say_Clean.calls (k : Nat) (a0_0 : Int) (a0_1 : Int) (a0_2 : Int) (a0_3 : Int) (a0_4 : Int) (a0_5 : ByteArray) (a0_6 : ByteArray) (a0_7 : Bool) (r1 : Int) (r2 : Int) (r3 : Int) (r4 : Int) (r5 : Int) (r6 : ByteArray) (r7 : ByteArray) (r8 : Bool) (w : World) (h : say_Clean.f k a0_0 a0_1 a0_2 a0_3 a0_4 a0_5 a0_6 a0_7 = some (r1, r2, r3, r4, r5, r6, r7, r8)) :
    Calls Tryd.prog 20 #[.agg #[.int .i64 a0_0, .int .i64 a0_1, .int .i64 a0_2, .int .i64 a0_3, .int .u64 a0_4, .string a0_5, .string a0_6, .bool a0_7]] w fun e w' => e = .returned (.agg #[.int .i64 r1, .int .i64 r2, .int .i64 r3, .int .i64 r4, .int .u64 r5, .string r6, .string r7, .bool r8]) ∧ Below w.heap.size w w' := by
  have hu32 := Tryd.underlying32
  have HB := Aside0.mk (Below.refl w.heap.size w)
  have H : ((say_form.f a0_0).bind fun bt205 => (say_Clean.l0 k bt205.2 (bt205.2.length : Int) 0 a0_0 a0_1 a0_2 a0_3 a0_4 a0_5 a0_6 a0_7 a0_0 0 0 0 0 (⟨#[]⟩ : ByteArray) (⟨#[]⟩ : ByteArray) false)) = some (r1, r2, r3, r4, r5, r6, r7, r8) := h
  clear h
  replace H := Option.bind_eq_some_iff.mp H
  obtain ⟨⟨t205, t206⟩, A20, H⟩ := H
  replace H : (say_Clean.l0 k t206 (t206.length : Int) 0 a0_0 a0_1 a0_2 a0_3 a0_4 a0_5 a0_6 a0_7 a0_0 0 0 0 0 (⟨#[]⟩ : ByteArray) (⟨#[]⟩ : ByteArray) false) = some (r1, r2, r3, r4, r5, r6, r7, r8) := H
  have A2 := Aside0.mk A20
  clear A20
  have H' := Aside0.mk H
  clear H
  go_enter Tryd.func20, Tryd.ntmps20
  go_wp2_with (first | ((with_reducible refine gate_dst (N := 1) rfl ?_); refine box_event ?hg (N := 1) ?hd (cs := #[.int .i64 a0_0, .int .i64 a0_1, .int .i64 a0_2, .int .i64 a0_3, .int .u64 a0_4, .string a0_5, .string a0_6, .bool a0_7]) (t := 32) ?hr ?_; (case hd => rfl); (case hg => rfl); (case hr => first | (go_simp; done) | (go_simp; rfl)); intro gb202 hg w3 hbox hb; have n0_ := Aside0.mk (below_step (by repeat (first | (with_reducible first | exact HB.out | apply below_alloc | apply pw_below_drewN | apply below_drew1) | exact HB.out)) hb); have n1_ := Aside0.mk (hbox); have n2_ := Aside0.mk ((by rw [hg]; exact (below_size (by repeat (first | (with_reducible first | exact HB.out | apply below_alloc | apply pw_below_drewN | apply below_drew1) | exact HB.out))) : w.heap.size ≤ gb202)); have n3_ := Aside0.mk ((by rw [hg]; exact (below_size (by repeat (first | (with_reducible first | exact HB.out | apply below_alloc | apply pw_below_drewN | apply below_drew1) | exact HB.out))) : w.heap.size ≤ gb202)); clear HB; have HB := n0_; have BK202 := n1_; have GW202 := n2_; have GE202 := n3_; clear n0_ n1_ n2_ n3_; clear hb hbox hg) | ((with_reducible refine gate_dst (N := 2) rfl ?_); refine box_event ?hg (N := 2) ?hd (cs := #[.int .i64 0, .int .i64 0, .int .i64 0, .int .i64 0, .int .u64 0, .string (⟨#[]⟩ : ByteArray), .string (⟨#[]⟩ : ByteArray), .bool false]) (t := 32) ?hr ?_; (case hd => rfl); (case hg => rfl); (case hr => first | (go_simp; done) | (go_simp; rfl)); intro gb203 hg w4 hbox hb; have n0_ := Aside0.mk (blk_below (g := gb202) (o := .cells #[.int .i64 a0_0, .int .i64 a0_1, .int .i64 a0_2, .int .i64 a0_3, .int .u64 a0_4, .string a0_5, .string a0_6, .bool a0_7] 32 (0, 0)) (by (with_reducible repeat (first | refine blk_drewN ?_ _ | refine blk_drew ?_ | refine blk_alloc ?_ _)); exact BK202.out) hb); have n1_ := Aside0.mk (below_step (by repeat (first | (with_reducible first | exact HB.out | apply below_alloc | apply pw_below_drewN | apply below_drew1 | refine below_set ?_ GE202.out) | exact HB.out)) hb); have n2_ := Aside0.mk (hbox); have n3_ := Aside0.mk ((by rw [hg]; exact (below_size (by repeat (first | (with_reducible first | exact HB.out | apply below_alloc | apply pw_below_drewN | apply below_drew1 | refine below_set ?_ GE202.out) | exact HB.out))) : w.heap.size ≤ gb203)); have n4_ := Aside0.mk ((by rw [hg]; exact (below_size (by repeat (first | (with_reducible first | exact HB.out | apply below_alloc | apply pw_below_drewN | apply below_drew1 | refine below_set ?_ GE202.out) | exact HB.out))) : w.heap.size ≤ gb203)); have n5_ := Aside0.mk ((by rw [hg]; exact Nat.ne_of_lt (blk_lt (g := gb202) (o := .cells #[.int .i64 a0_0, .int .i64 a0_1, .int .i64 a0_2, .int .i64 a0_3, .int .u64 a0_4, .string a0_5, .string a0_6, .bool a0_7] 32 (0, 0)) (by (with_reducible repeat (first | refine blk_drewN ?_ _ | refine blk_drew ?_ | refine blk_alloc ?_ _)); exact BK202.out)) : gb202 ≠ gb203)); have n6_ := Aside0.mk ((by rw [hg]; exact Nat.ne_of_gt (blk_lt (g := gb202) (o := .cells #[.int .i64 a0_0, .int .i64 a0_1, .int .i64 a0_2, .int .i64 a0_3, .int .u64 a0_4, .string a0_5, .string a0_6, .bool a0_7] 32 (0, 0)) (by (with_reducible repeat (first | refine blk_drewN ?_ _ | refine blk_drew ?_ | refine blk_alloc ?_ _)); exact BK202.out)) : gb203 ≠ gb202)); clear BK202; clear HB; have BK202 := n0_; have HB := n1_; have BK203 := n2_; have GW203 := n3_; have GE203 := n4_; have NB202_203 := n5_; have NB203_202 := n6_; clear n0_ n1_ n2_ n3_ n4_ n5_ n6_; clear hb hbox hg; have hnb5 := NB202_203.out; have hnc5 := NB203_202.out; have hcz6_0 : w4.cell? ⟨gb202, 0, none⟩ = some (.int .i64 a0_0) := (blk_cell BK202.out 0).trans rfl; have hcz6_1 : w4.cell? ⟨gb202, 1, none⟩ = some (.int .i64 a0_1) := (blk_cell BK202.out 1).trans rfl; have hcz6_2 : w4.cell? ⟨gb202, 2, none⟩ = some (.int .i64 a0_2) := (blk_cell BK202.out 2).trans rfl; have hcz6_3 : w4.cell? ⟨gb202, 3, none⟩ = some (.int .i64 a0_3) := (blk_cell BK202.out 3).trans rfl; have hcz6_4 : w4.cell? ⟨gb202, 4, none⟩ = some (.int .u64 a0_4) := (blk_cell BK202.out 4).trans rfl; have hcz6_5 : w4.cell? ⟨gb202, 5, none⟩ = some (.string a0_5) := (blk_cell BK202.out 5).trans rfl; have hcz6_6 : w4.cell? ⟨gb202, 6, none⟩ = some (.string a0_6) := (blk_cell BK202.out 6).trans rfl; have hcz6_7 : w4.cell? ⟨gb202, 7, none⟩ = some (.bool a0_7) := (blk_cell BK202.out 7).trans rfl; have hfz6_0 := blk_frozen BK202.out 0; have hfz6_1 := blk_frozen BK202.out 1; have hfz6_2 := blk_frozen BK202.out 2; have hfz6_3 := blk_frozen BK202.out 3; have hfz6_4 := blk_frozen BK202.out 4; have hfz6_5 := blk_frozen BK202.out 5; have hfz6_6 := blk_frozen BK202.out 6; have hfz6_7 := blk_frozen BK202.out 7) | ((with_reducible refine gate_dst (N := 3) rfl ?_); refine box_event ?hg (N := 3) ?hd (cs := #[.int .i64 0, .int .i64 0, .int .i64 0, .int .i64 0, .int .u64 0, .string (⟨#[]⟩ : ByteArray), .string (⟨#[]⟩ : ByteArray), .bool false]) (t := 32) ?hr ?_; (case hd => rfl); (case hg => rfl); (case hr => first | (go_simp; done) | (go_simp; rfl)); intro gb204 hg w7 hbox hb; have n0_ := Aside0.mk (blk_below (g := gb202) (o := .cells #[.int .i64 a0_0, .int .i64 a0_1, .int .i64 a0_2, .int .i64 a0_3, .int .u64 a0_4, .string a0_5, .string a0_6, .bool a0_7] 32 (0, 0)) (by (with_reducible repeat (first | refine blk_drewN ?_ _ | refine blk_drew ?_ | refine blk_alloc ?_ _)); exact BK202.out) hb); have n1_ := Aside0.mk (blk_below (g := gb203) (o := .cells #[.int .i64 0, .int .i64 0, .int .i64 0, .int .i64 0, .int .u64 0, .string (⟨#[]⟩ : ByteArray), .string (⟨#[]⟩ : ByteArray), .bool false] 32 (0, 0)) (by (with_reducible repeat (first | refine blk_drewN ?_ _ | refine blk_drew ?_ | refine blk_alloc ?_ _)); exact BK203.out) hb); have n2_ := Aside0.mk (below_step (by repeat (first | (with_reducible first | exact HB.out | apply below_alloc | apply pw_below_drewN | apply below_drew1 | refine below_set ?_ GE202.out | refine below_set ?_ GE203.out) | exact HB.out)) hb); have n3_ := Aside0.mk (hbox); have n4_ := Aside0.mk ((by rw [hg]; exact (below_size (by repeat (first | (with_reducible first | exact HB.out | apply below_alloc | apply pw_below_drewN | apply below_drew1 | refine below_set ?_ GE202.out | refine below_set ?_ GE203.out) | exact HB.out))) : w.heap.size ≤ gb204)); have n5_ := Aside0.mk ((by rw [hg]; exact (below_size (by repeat (first | (with_reducible first | exact HB.out | apply below_alloc | apply pw_below_drewN | apply below_drew1 | refine below_set ?_ GE202.out | refine below_set ?_ GE203.out) | exact HB.out))) : w.heap.size ≤ gb204)); have n6_ := Aside0.mk ((by rw [hg]; exact Nat.ne_of_lt (blk_lt (g := gb202) (o := .cells #[.int .i64 a0_0, .int .i64 a0_1, .int .i64 a0_2, .int .i64 a0_3, .int .u64 a0_4, .string a0_5, .string a0_6, .bool a0_7] 32 (0, 0)) (by (with_reducible repeat (first | refine blk_drewN ?_ _ | refine blk_drew ?_ | refine blk_alloc ?_ _)); exact BK202.out)) : gb202 ≠ gb204)); have n7_ := Aside0.mk ((by rw [hg]; exact Nat.ne_of_gt (blk_lt (g := gb202) (o := .cells #[.int .i64 a0_0, .int .i64 a0_1, .int .i64 a0_2, .int .i64 a0_3, .int .u64 a0_4, .string a0_5, .string a0_6, .bool a0_7] 32 (0, 0)) (by (with_reducible repeat (first | refine blk_drewN ?_ _ | refine blk_drew ?_ | refine blk_alloc ?_ _)); exact BK202.out)) : gb204 ≠ gb202)); have n8_ := Aside0.mk ((by rw [hg]; exact Nat.ne_of_lt (blk_lt (g := gb203) (o := .cells #[.int .i64 0, .int .i64 0, .int .i64 0, .int .i64 0, .int .u64 0, .string (⟨#[]⟩ : ByteArray), .string (⟨#[]⟩ : ByteArray), .bool false] 32 (0, 0)) (by (with_reducible repeat (first | refine blk_drewN ?_ _ | refine blk_drew ?_ | refine blk_alloc ?_ _)); exact BK203.out)) : gb203 ≠ gb204)); have n9_ := Aside0.mk ((by rw [hg]; exact Nat.ne_of_gt (blk_lt (g := gb203) (o := .cells #[.int .i64 0, .int .i64 0, .int .i64 0, .int .i64 0, .int .u64 0, .string (⟨#[]⟩ : ByteArray), .string (⟨#[]⟩ : ByteArray), .bool false] 32 (0, 0)) (by (with_reducible repeat (first | refine blk_drewN ?_ _ | refine blk_drew ?_ | refine blk_alloc ?_ _)); exact BK203.out)) : gb204 ≠ gb203)); clear BK202; clear BK203; clear HB; have BK202 := n0_; have BK203 := n1_; have HB := n2_; have BK204 := n3_; have GW204 := n4_; have GE204 := n5_; have NB202_204 := n6_; have NB204_202 := n7_; have NB203_204 := n8_; have NB204_203 := n9_; clear n0_ n1_ n2_ n3_ n4_ n5_ n6_ n7_ n8_ n9_; clear hb hbox hg; have hnb8 := NB204_202.out; have hnc8 := NB202_204.out; have hnb9 := NB204_203.out; have hnc9 := NB203_204.out; have hcz10_0 : w7.cell? ⟨gb204, 0, none⟩ = some (.int .i64 0) := (blk_cell BK204.out 0).trans rfl; have hcz10_1 : w7.cell? ⟨gb204, 1, none⟩ = some (.int .i64 0) := (blk_cell BK204.out 1).trans rfl; have hcz10_2 : w7.cell? ⟨gb204, 2, none⟩ = some (.int .i64 0) := (blk_cell BK204.out 2).trans rfl; have hcz10_3 : w7.cell? ⟨gb204, 3, none⟩ = some (.int .i64 0) := (blk_cell BK204.out 3).trans rfl; have hcz10_4 : w7.cell? ⟨gb204, 4, none⟩ = some (.int .u64 0) := (blk_cell BK204.out 4).trans rfl; have hcz10_5 : w7.cell? ⟨gb204, 5, none⟩ = some (.string (⟨#[]⟩ : ByteArray)) := (blk_cell BK204.out 5).trans rfl; have hcz10_6 : w7.cell? ⟨gb204, 6, none⟩ = some (.string (⟨#[]⟩ : ByteArray)) := (blk_cell BK204.out 6).trans rfl; have hcz10_7 : w7.cell? ⟨gb204, 7, none⟩ = some (.bool false) := (blk_cell BK204.out 7).trans rfl; have hfz10_0 := blk_frozen BK204.out 0; have hfz10_1 := blk_frozen BK204.out 1; have hfz10_2 := blk_frozen BK204.out 2; have hfz10_3 := blk_frozen BK204.out 3; have hfz10_4 := blk_frozen BK204.out 4; have hfz10_5 := blk_frozen BK204.out 5; have hfz10_6 := blk_frozen BK204.out 6; have hfz10_7 := blk_frozen BK204.out 7; have hcz11_0 : w7.cell? ⟨gb202, 0, none⟩ = some (.int .i64 a0_0) := (blk_cell BK202.out 0).trans rfl; have hcz11_1 : w7.cell? ⟨gb202, 1, none⟩ = some (.int .i64 a0_1) := (blk_cell BK202.out 1).trans rfl; have hcz11_2 : w7.cell? ⟨gb202, 2, none⟩ = some (.int .i64 a0_2) := (blk_cell BK202.out 2).trans rfl; have hcz11_3 : w7.cell? ⟨gb202, 3, none⟩ = some (.int .i64 a0_3) := (blk_cell BK202.out 3).trans rfl; have hcz11_4 : w7.cell? ⟨gb202, 4, none⟩ = some (.int .u64 a0_4) := (blk_cell BK202.out 4).trans rfl; have hcz11_5 : w7.cell? ⟨gb202, 5, none⟩ = some (.string a0_5) := (blk_cell BK202.out 5).trans rfl; have hcz11_6 : w7.cell? ⟨gb202, 6, none⟩ = some (.string a0_6) := (blk_cell BK202.out 6).trans rfl; have hcz11_7 : w7.cell? ⟨gb202, 7, none⟩ = some (.bool a0_7) := (blk_cell BK202.out 7).trans rfl; have hfz11_0 := blk_frozen BK202.out 0; have hfz11_1 := blk_frozen BK202.out 1; have hfz11_2 := blk_frozen BK202.out 2; have hfz11_3 := blk_frozen BK202.out 3; have hfz11_4 := blk_frozen BK202.out 4; have hfz11_5 := blk_frozen BK202.out 5; have hfz11_6 := blk_frozen BK202.out 6; have hfz11_7 := blk_frozen BK202.out 7) | ((with_reducible refine gate_callee (f := 36) rfl ?_); refine goesL_ (some 14) rfl rfl Tryd.func36 (by kernel_rfl) rfl #[.int .i64 a0_0] rfl (by (try simp only [List.map_toArray, List.map_cons, List.map_nil]); first | done | rfl | (simp only [List.length_drop, List.length_take]; rfl)) ?_; (with_reducible refine (say_form.calls a0_0 t205 t206 _ A2.out).mono ?_); rintro e w12 ⟨v207, rfl, ho0, hb⟩; refine ⟨_, rfl, ?_⟩; have n0_ := Aside0.mk (Kd.R_lower ho0 (below_size (by repeat (first | (with_reducible first | exact HB.out | apply below_alloc | apply pw_below_drewN | apply below_drew1 | refine below_set ?_ GE202.out | refine below_set ?_ GE203.out | refine below_set ?_ GE204.out) | exact HB.out)))); have n1_ := Aside0.mk (blk_below (g := gb202) (o := .cells #[.int .i64 a0_0, .int .i64 a0_1, .int .i64 a0_2, .int .i64 a0_3, .int .u64 a0_4, .string a0_5, .string a0_6, .bool a0_7] 32 (0, 0)) (by (with_reducible repeat (first | refine blk_drewN ?_ _ | refine blk_drew ?_ | refine blk_alloc ?_ _)); refine blk_far ?_ NB202_204.out _; (with_reducible repeat (first | refine blk_drewN ?_ _ | refine blk_drew ?_ | refine blk_alloc ?_ _)); refine blk_far ?_ NB202_204.out _; (with_reducible repeat (first | refine blk_drewN ?_ _ | refine blk_drew ?_ | refine blk_alloc ?_ _)); refine blk_far ?_ NB202_204.out _; (with_reducible repeat (first | refine blk_drewN ?_ _ | refine blk_drew ?_ | refine blk_alloc ?_ _)); refine blk_far ?_ NB202_204.out _; (with_reducible repeat (first | refine blk_drewN ?_ _ | refine blk_drew ?_ | refine blk_alloc ?_ _)); refine blk_far ?_ NB202_204.out _; (with_reducible repeat (first | refine blk_drewN ?_ _ | refine blk_drew ?_ | refine blk_alloc ?_ _)); refine blk_far ?_ NB202_204.out _; (with_reducible repeat (first | refine blk_drewN ?_ _ | refine blk_drew ?_ | refine blk_alloc ?_ _)); refine blk_far ?_ NB202_204.out _; (with_reducible repeat (first | refine blk_drewN ?_ _ | refine blk_drew ?_ | refine blk_alloc ?_ _)); refine blk_far ?_ NB202_204.out _; (with_reducible repeat (first | refine blk_drewN ?_ _ | refine blk_drew ?_ | refine blk_alloc ?_ _)); exact BK202.out) hb); have n2_ := Aside0.mk (blk_below (g := gb203) (o := .cells #[.int .i64 0, .int .i64 0, .int .i64 0, .int .i64 0, .int .u64 0, .string (⟨#[]⟩ : ByteArray), .string (⟨#[]⟩ : ByteArray), .bool false] 32 (0, 0)) (by (with_reducible repeat (first | refine blk_drewN ?_ _ | refine blk_drew ?_ | refine blk_alloc ?_ _)); refine blk_far ?_ NB203_204.out _; (with_reducible repeat (first | refine blk_drewN ?_ _ | refine blk_drew ?_ | refine blk_alloc ?_ _)); refine blk_far ?_ NB203_204.out _; (with_reducible repeat (first | refine blk_drewN ?_ _ | refine blk_drew ?_ | refine blk_alloc ?_ _)); refine blk_far ?_ NB203_204.out _; (with_reducible repeat (first | refine blk_drewN ?_ _ | refine blk_drew ?_ | refine blk_alloc ?_ _)); refine blk_far ?_ NB203_204.out _; (with_reducible repeat (first | refine blk_drewN ?_ _ | refine blk_drew ?_ | refine blk_alloc ?_ _)); refine blk_far ?_ NB203_204.out _; (with_reducible repeat (first | refine blk_drewN ?_ _ | refine blk_drew ?_ | refine blk_alloc ?_ _)); refine blk_far ?_ NB203_204.out _; (with_reducible repeat (first | refine blk_drewN ?_ _ | refine blk_drew ?_ | refine blk_alloc ?_ _)); refine blk_far ?_ NB203_204.out _; (with_reducible repeat (first | refine blk_drewN ?_ _ | refine blk_drew ?_ | refine blk_alloc ?_ _)); refine blk_far ?_ NB203_204.out _; (with_reducible repeat (first | refine blk_drewN ?_ _ | refine blk_drew ?_ | refine blk_alloc ?_ _)); exact BK203.out) hb); have n3_ := Aside0.mk (blk_below (g := gb204) (o := .cells #[.int .i64 a0_0, .int .i64 0, .int .i64 0, .int .i64 0, .int .u64 0, .string (⟨#[]⟩ : ByteArray), .string (⟨#[]⟩ : ByteArray), .bool false] 32 (0, 0)) (by (with_reducible repeat (first | refine blk_drewN ?_ _ | refine blk_drew ?_ | refine blk_alloc ?_ _)); refine blk_put (cs := #[.int .i64 a0_0, .int .i64 0, .int .i64 0, .int .i64 0, .int .u64 0, .string (⟨#[]⟩ : ByteArray), .string (⟨#[]⟩ : ByteArray), .bool false]) ?_ 7 _ rfl; (with_reducible repeat (first | refine blk_drewN ?_ _ | refine blk_drew ?_ | refine blk_alloc ?_ _)); refine blk_put (cs := #[.int .i64 a0_0, .int .i64 0, .int .i64 0, .int .i64 0, .int .u64 0, .string (⟨#[]⟩ : ByteArray), .string (⟨#[]⟩ : ByteArray), .bool false]) ?_ 6 _ rfl; (with_reducible repeat (first | refine blk_drewN ?_ _ | refine blk_drew ?_ | refine blk_alloc ?_ _)); refine blk_put (cs := #[.int .i64 a0_0, .int .i64 0, .int .i64 0, .int .i64 0, .int .u64 0, .string (⟨#[]⟩ : ByteArray), .string (⟨#[]⟩ : ByteArray), .bool false]) ?_ 5 _ rfl; (with_reducible repeat (first | refine blk_drewN ?_ _ | refine blk_drew ?_ | refine blk_alloc ?_ _)); refine blk_put (cs := #[.int .i64 a0_0, .int .i64 0, .int .i64 0, .int .i64 0, .int .u64 0, .string (⟨#[]⟩ : ByteArray), .string (⟨#[]⟩ : ByteArray), .bool false]) ?_ 4 _ rfl; (with_reducible repeat (first | refine blk_drewN ?_ _ | refine blk_drew ?_ | refine blk_alloc ?_ _)); refine blk_put (cs := #[.int .i64 a0_0, .int .i64 0, .int .i64 0, .int .i64 0, .int .u64 0, .string (⟨#[]⟩ : ByteArray), .string (⟨#[]⟩ : ByteArray), .bool false]) ?_ 3 _ rfl; (with_reducible repeat (first | refine blk_drewN ?_ _ | refine blk_drew ?_ | refine blk_alloc ?_ _)); refine blk_put (cs := #[.int .i64 a0_0, .int .i64 0, .int .i64 0, .int .i64 0, .int .u64 0, .string (⟨#[]⟩ : ByteArray), .string (⟨#[]⟩ : ByteArray), .bool false]) ?_ 2 _ rfl; (with_reducible repeat (first | refine blk_drewN ?_ _ | refine blk_drew ?_ | refine blk_alloc ?_ _)); refine blk_put (cs := #[.int .i64 a0_0, .int .i64 0, .int .i64 0, .int .i64 0, .int .u64 0, .string (⟨#[]⟩ : ByteArray), .string (⟨#[]⟩ : ByteArray), .bool false]) ?_ 1 _ rfl; (with_reducible repeat (first | refine blk_drewN ?_ _ | refine blk_drew ?_ | refine blk_alloc ?_ _)); refine blk_put (cs := #[.int .i64 0, .int .i64 0, .int .i64 0, .int .i64 0, .int .u64 0, .string (⟨#[]⟩ : ByteArray), .string (⟨#[]⟩ : ByteArray), .bool false]) ?_ 0 _ rfl; (with_reducible repeat (first | refine blk_drewN ?_ _ | refine blk_drew ?_ | refine blk_alloc ?_ _)); exact BK204.out) hb); have n4_ := Aside0.mk (below_step (by repeat (first | (with_reducible first | exact HB.out | apply below_alloc | apply pw_below_drewN | apply below_drew1 | refine below_set ?_ GE202.out | refine below_set ?_ GE203.out | refine below_set ?_ GE204.out) | exact HB.out)) hb); clear BK202; clear BK203; clear BK204; clear HB; have HO208 := n0_; have BK202 := n1_; have BK203 := n2_; have BK204 := n3_; have HB := n4_; clear n0_ n1_ n2_ n3_ n4_; (try clear hb); (try clear hb2); (try clear hk); (try clear hi); (try clear ho0); obtain ⟨Ao13, co13, eo13⟩ := Kd.R_slice HO208.out; subst eo13))
  go_loopg [19] k (fun kq v19 w' => ∃ (x19_1 : Int) (x205001_1 : Int) (x205002_1 : Int) (x205003_1 : Int) (x205004_1 : Int) (x205005_1 : ByteArray) (x205006_1 : ByteArray) (x205007_1 : Bool), v19 = .int .i64 x19_1 ∧ Aside0 (say_Clean.l0 kq t206 (t206.length : Int) x19_1 a0_0 a0_1 a0_2 a0_3 a0_4 a0_5 a0_6 a0_7 a0_0 x205001_1 x205002_1 x205003_1 x205004_1 x205005_1 x205006_1 x205007_1 = some (r1, r2, r3, r4, r5, r6, r7, r8)) ∧ Aside0 (kq ≤ k) ∧ Aside0 (Kd.R (Kd.int .i64) 3 w' w.heap.size (fun _ => True) (.slice Ao13 t206.length co13) t206) ∧ Aside0 (w'.heap[gb202]? = some (.cells #[.int .i64 a0_0, .int .i64 a0_1, .int .i64 a0_2, .int .i64 a0_3, .int .u64 a0_4, .string a0_5, .string a0_6, .bool a0_7] 32 (0, 0))) ∧ Aside0 (w'.heap[gb203]? = some (.cells #[.int .i64 0, .int .i64 0, .int .i64 0, .int .i64 0, .int .u64 0, .string (⟨#[]⟩ : ByteArray), .string (⟨#[]⟩ : ByteArray), .bool false] 32 (0, 0))) ∧ Aside0 (w'.heap[gb204]? = some (.cells #[.int .i64 a0_0, .int .i64 x205001_1, .int .i64 x205002_1, .int .i64 x205003_1, .int .u64 x205004_1, .string x205005_1, .string x205006_1, .bool x205007_1] 32 (0, 0))) ∧ Aside0 (Below w.heap.size w w'))
  case atStart => exact ⟨(0), (0), (0), (0), (0), ((⟨#[]⟩ : ByteArray)), ((⟨#[]⟩ : ByteArray)), (false), (by first | rfl | (simp; done) | (simp [*]; done)), H', ⟨Nat.le_refl _⟩, ⟨by (with_reducible repeat (first | apply Kd.R_alloc | apply Kd.R_drewN | apply Kd.R_drew)); exact HO208.out⟩, ⟨by (with_reducible repeat (first | refine blk_drewN ?_ _ | refine blk_drew ?_ | refine blk_alloc ?_ _)); exact BK202.out⟩, ⟨by (with_reducible repeat (first | refine blk_drewN ?_ _ | refine blk_drew ?_ | refine blk_alloc ?_ _)); exact BK203.out⟩, ⟨by (with_reducible repeat (first | refine blk_drewN ?_ _ | refine blk_drew ?_ | refine blk_alloc ?_ _)); exact BK204.out⟩, ⟨by repeat (first | (with_reducible first | exact HB.out | apply below_alloc | apply pw_below_drewN | apply below_drew1 | refine below_set ?_ GE202.out | refine below_set ?_ GE203.out | refine below_set ?_ GE204.out) | exact HB.out)⟩⟩
  case round =>
    clear H'
    try clear c2
    try clear p2
    try clear c3
    try clear c5
    try clear c8
    try clear c9
    try clear hcz10_0
    try clear hcz10_1
    try clear hcz10_2
    try clear hcz10_3
    try clear hcz10_4
    try clear hcz10_5
    try clear hcz10_6
    try clear hcz10_7
    try clear hcz11_0
    try clear hcz11_1
    try clear hcz11_2
    try clear hcz11_3
    try clear hcz11_4
    try clear hcz11_5
    try clear hcz11_6
    try clear hcz11_7
    try clear hcz6_0
    try clear hcz6_1
    try clear hcz6_2
    try clear hcz6_3
    try clear hcz6_4
    try clear hcz6_5
    try clear hcz6_6
    try clear hcz6_7
    try clear hfz10_0
    try clear hfz10_1
    try clear hfz10_2
    try clear hfz10_3
    try clear hfz10_4
    try clear hfz10_5
    try clear hfz10_6
    try clear hfz10_7
    try clear hfz11_0
    try clear hfz11_1
    try clear hfz11_2
    try clear hfz11_3
    try clear hfz11_4
    try clear hfz11_5
    try clear hfz11_6
    try clear hfz11_7
    try clear hfz6_0
    try clear hfz6_1
    try clear hfz6_2
    try clear hfz6_3
    try clear hfz6_4
    try clear hfz6_5
    try clear hfz6_6
    try clear hfz6_7
    obtain ⟨x19_1, x205001_1, x205002_1, x205003_1, x205004_1, x205005_1, x205006_1, x205007_1, rfl, HA, HK1, HO_17, BK202, BK203, BK204, HB⟩ := hrel
    cases gk with
    | zero => exact absurd HA.out (by simp [say_Clean.l0])
    | succ k1 =>
      have H := HA.out
      clear HA
      simp only [say_Clean.l0] at H
      by_cases c14 : x19_1 < (t206.length : Int)
      · rw [if_pos c14] at H
        have c14b0 : decide (x19_1 < (t206.length : Int)) = true := decide_eq_true c14
        clear c14
        by_cases c15 : 0 ≤ x19_1
        · rw [if_pos c15] at H
          have c15b0 : decide (0 ≤ x19_1) = true := decide_eq_true c15
          clear c15
          by_cases c16 : x19_1 < (t206.length : Int)
          · rw [if_pos c16] at H
            have c16b0 : decide (x19_1 < (t206.length : Int)) = true := decide_eq_true c16
            clear c16
            by_cases c17 : (rd t206 x19_1) = 1
            · rw [if_pos c17] at H
              have c17b0 : ((rd t206 x19_1) == 1) = true := beq_iff_eq.mpr c17
              have c17b1 : ((rd t206 x19_1) != 1) = false := bne_eq_false_iff_eq.mpr c17
              clear c17
              have H' := Aside0.mk H
              clear H
              have p209 : 0 ≤ (x19_1 : Int) := of_decide_eq_true (by first | (with_reducible assumption) | assumption)
              have q209 : x19_1 < (t206.length : Int) := of_decide_eq_true (by first | (with_reducible assumption) | assumption)
              obtain ⟨ad209, e209, hx209_0⟩ := Kd.at_int (Kd.R_reads' HO_17.out).2.2 x19_1 p209 q209
              cases e209
              replace p209 := eq_true p209
              replace q209 := eq_true q209
              have hnb18 := NB202_203.out
              have hnc18 := NB203_202.out
              have hnb19 := NB202_204.out
              have hnc19 := NB204_202.out
              have hcz20_0 : wr.cell? ⟨gb202, 0, none⟩ = some (.int .i64 a0_0) := (blk_cell BK202.out 0).trans rfl
              have hcz20_1 : wr.cell? ⟨gb202, 1, none⟩ = some (.int .i64 a0_1) := (blk_cell BK202.out 1).trans rfl
              have hcz20_2 : wr.cell? ⟨gb202, 2, none⟩ = some (.int .i64 a0_2) := (blk_cell BK202.out 2).trans rfl
              have hcz20_3 : wr.cell? ⟨gb202, 3, none⟩ = some (.int .i64 a0_3) := (blk_cell BK202.out 3).trans rfl
              have hcz20_4 : wr.cell? ⟨gb202, 4, none⟩ = some (.int .u64 a0_4) := (blk_cell BK202.out 4).trans rfl
              have hcz20_5 : wr.cell? ⟨gb202, 5, none⟩ = some (.string a0_5) := (blk_cell BK202.out 5).trans rfl
              have hcz20_6 : wr.cell? ⟨gb202, 6, none⟩ = some (.string a0_6) := (blk_cell BK202.out 6).trans rfl
              have hcz20_7 : wr.cell? ⟨gb202, 7, none⟩ = some (.bool a0_7) := (blk_cell BK202.out 7).trans rfl
              have hfz20_0 := blk_frozen BK202.out 0
              have hfz20_1 := blk_frozen BK202.out 1
              have hfz20_2 := blk_frozen BK202.out 2
              have hfz20_3 := blk_frozen BK202.out 3
              have hfz20_4 := blk_frozen BK202.out 4
              have hfz20_5 := blk_frozen BK202.out 5
              have hfz20_6 := blk_frozen BK202.out 6
              have hfz20_7 := blk_frozen BK202.out 7
              have hnb21 := NB204_203.out
              have hnc21 := NB203_204.out
              have hcz22_0 : wr.cell? ⟨gb204, 0, none⟩ = some (.int .i64 a0_0) := (blk_cell BK204.out 0).trans rfl
              have hcz22_1 : wr.cell? ⟨gb204, 1, none⟩ = some (.int .i64 x205001_1) := (blk_cell BK204.out 1).trans rfl
              have hcz22_2 : wr.cell? ⟨gb204, 2, none⟩ = some (.int .i64 x205002_1) := (blk_cell BK204.out 2).trans rfl
              have hcz22_3 : wr.cell? ⟨gb204, 3, none⟩ = some (.int .i64 x205003_1) := (blk_cell BK204.out 3).trans rfl
              have hcz22_4 : wr.cell? ⟨gb204, 4, none⟩ = some (.int .u64 x205004_1) := (blk_cell BK204.out 4).trans rfl
              have hcz22_5 : wr.cell? ⟨gb204, 5, none⟩ = some (.string x205005_1) := (blk_cell BK204.out 5).trans rfl
              have hcz22_6 : wr.cell? ⟨gb204, 6, none⟩ = some (.string x205006_1) := (blk_cell BK204.out 6).trans rfl
              have hcz22_7 : wr.cell? ⟨gb204, 7, none⟩ = some (.bool x205007_1) := (blk_cell BK204.out 7).trans rfl
              have hfz22_0 := blk_frozen BK204.out 0
              have hfz22_1 := blk_frozen BK204.out 1
              have hfz22_2 := blk_frozen BK204.out 2
              have hfz22_3 := blk_frozen BK204.out 3
              have hfz22_4 := blk_frozen BK204.out 4
              have hfz22_5 := blk_frozen BK204.out 5
              have hfz22_6 := blk_frozen BK204.out 6
              have hfz22_7 := blk_frozen BK204.out 7
              go_wp2
              go_roundg k1
              case measure => have := HK1.out; omega
              case rel => exact ⟨(wrap64 (x19_1 + 1)), (x205001_1), (a0_2), (x205003_1), (x205004_1), (x205005_1), (x205006_1), (x205007_1), (by first | rfl | (simp; done) | (simp [*]; done)), H', ⟨by have := HK1.out; omega⟩, ⟨by (with_reducible repeat (first | apply Kd.R_alloc | apply Kd.R_drewN | apply Kd.R_drew)); exact Kd.R_mono (Kd.R_far (p := ⟨gb204, 2, none⟩) (Kd.R_types HO_17.out BK204.out (by decide)) (fun _ hk => hk.2) (.int .i64 a0_2)) (fun _ hk => trivial)⟩, ⟨by (with_reducible repeat (first | refine blk_drewN ?_ _ | refine blk_drew ?_ | refine blk_alloc ?_ _)); refine blk_far ?_ NB202_204.out _; (with_reducible repeat (first | refine blk_drewN ?_ _ | refine blk_drew ?_ | refine blk_alloc ?_ _)); exact BK202.out⟩, ⟨by (with_reducible repeat (first | refine blk_drewN ?_ _ | refine blk_drew ?_ | refine blk_alloc ?_ _)); refine blk_far ?_ NB203_204.out _; (with_reducible repeat (first | refine blk_drewN ?_ _ | refine blk_drew ?_ | refine blk_alloc ?_ _)); exact BK203.out⟩, ⟨by (with_reducible repeat (first | refine blk_drewN ?_ _ | refine blk_drew ?_ | refine blk_alloc ?_ _)); refine blk_put (cs := #[.int .i64 a0_0, .int .i64 x205001_1, .int .i64 x205002_1, .int .i64 x205003_1, .int .u64 x205004_1, .string x205005_1, .string x205006_1, .bool x205007_1]) ?_ 2 _ rfl; (with_reducible repeat (first | refine blk_drewN ?_ _ | refine blk_drew ?_ | refine blk_alloc ?_ _)); exact BK204.out⟩, ⟨by repeat (first | (with_reducible first | exact HB.out | apply below_alloc | apply pw_below_drewN | apply below_drew1 | refine below_set ?_ GE202.out | refine below_set ?_ GE203.out | refine below_set ?_ GE204.out) | exact HB.out)⟩⟩
            · rw [if_neg c17] at H
              have c17b0 : ((rd t206 x19_1) == 1) = false := beq_eq_false_iff_ne.mpr c17
              have c17b1 : ((rd t206 x19_1) != 1) = true := bne_iff_ne.mpr c17
              by_cases c23 : (rd t206 x19_1) = 2
              · rw [if_pos c23] at H
                have c23b0 : ((rd t206 x19_1) == 2) = true := beq_iff_eq.mpr c23
                have c23b1 : ((rd t206 x19_1) != 2) = false := bne_eq_false_iff_eq.mpr c23
                clear c23
                have H' := Aside0.mk H
                clear H
                have p209 : 0 ≤ (x19_1 : Int) := of_decide_eq_true (by first | (with_reducible assumption) | assumption)
                have q209 : x19_1 < (t206.length : Int) := of_decide_eq_true (by first | (with_reducible assumption) | assumption)
                obtain ⟨ad209, e209, hx209_0⟩ := Kd.at_int (Kd.R_reads' HO_17.out).2.2 x19_1 p209 q209
                cases e209
                replace p209 := eq_true p209
                replace q209 := eq_true q209
                have hnb24 := NB202_203.out
                have hnc24 := NB203_202.out
                have hnb25 := NB202_204.out
                have hnc25 := NB204_202.out
                have hcz26_0 : wr.cell? ⟨gb202, 0, none⟩ = some (.int .i64 a0_0) := (blk_cell BK202.out 0).trans rfl
                have hcz26_1 : wr.cell? ⟨gb202, 1, none⟩ = some (.int .i64 a0_1) := (blk_cell BK202.out 1).trans rfl
                have hcz26_2 : wr.cell? ⟨gb202, 2, none⟩ = some (.int .i64 a0_2) := (blk_cell BK202.out 2).trans rfl
                have hcz26_3 : wr.cell? ⟨gb202, 3, none⟩ = some (.int .i64 a0_3) := (blk_cell BK202.out 3).trans rfl
                have hcz26_4 : wr.cell? ⟨gb202, 4, none⟩ = some (.int .u64 a0_4) := (blk_cell BK202.out 4).trans rfl
                have hcz26_5 : wr.cell? ⟨gb202, 5, none⟩ = some (.string a0_5) := (blk_cell BK202.out 5).trans rfl
                have hcz26_6 : wr.cell? ⟨gb202, 6, none⟩ = some (.string a0_6) := (blk_cell BK202.out 6).trans rfl
                have hcz26_7 : wr.cell? ⟨gb202, 7, none⟩ = some (.bool a0_7) := (blk_cell BK202.out 7).trans rfl
                have hfz26_0 := blk_frozen BK202.out 0
                have hfz26_1 := blk_frozen BK202.out 1
                have hfz26_2 := blk_frozen BK202.out 2
                have hfz26_3 := blk_frozen BK202.out 3
                have hfz26_4 := blk_frozen BK202.out 4
                have hfz26_5 := blk_frozen BK202.out 5
                have hfz26_6 := blk_frozen BK202.out 6
                have hfz26_7 := blk_frozen BK202.out 7
                have hnb27 := NB204_203.out
                have hnc27 := NB203_204.out
                have hcz28_0 : wr.cell? ⟨gb204, 0, none⟩ = some (.int .i64 a0_0) := (blk_cell BK204.out 0).trans rfl
                have hcz28_1 : wr.cell? ⟨gb204, 1, none⟩ = some (.int .i64 x205001_1) := (blk_cell BK204.out 1).trans rfl
                have hcz28_2 : wr.cell? ⟨gb204, 2, none⟩ = some (.int .i64 x205002_1) := (blk_cell BK204.out 2).trans rfl
                have hcz28_3 : wr.cell? ⟨gb204, 3, none⟩ = some (.int .i64 x205003_1) := (blk_cell BK204.out 3).trans rfl
                have hcz28_4 : wr.cell? ⟨gb204, 4, none⟩ = some (.int .u64 x205004_1) := (blk_cell BK204.out 4).trans rfl
                have hcz28_5 : wr.cell? ⟨gb204, 5, none⟩ = some (.string x205005_1) := (blk_cell BK204.out 5).trans rfl
                have hcz28_6 : wr.cell? ⟨gb204, 6, none⟩ = some (.string x205006_1) := (blk_cell BK204.out 6).trans rfl
                have hcz28_7 : wr.cell? ⟨gb204, 7, none⟩ = some (.bool x205007_1) := (blk_cell BK204.out 7).trans rfl
                have hfz28_0 := blk_frozen BK204.out 0
                have hfz28_1 := blk_frozen BK204.out 1
                have hfz28_2 := blk_frozen BK204.out 2
                have hfz28_3 := blk_frozen BK204.out 3
                have hfz28_4 := blk_frozen BK204.out 4
                have hfz28_5 := blk_frozen BK204.out 5
                have hfz28_6 := blk_frozen BK204.out 6
                have hfz28_7 := blk_frozen BK204.out 7
                go_wp2
                go_roundg k1
                case measure => have := HK1.out; omega
                case rel => exact ⟨(wrap64 (x19_1 + 1)), (a0_1), (x205002_1), (x205003_1), (x205004_1), (x205005_1), (x205006_1), (x205007_1), (by first | rfl | (simp; done) | (simp [*]; done)), H', ⟨by have := HK1.out; omega⟩, ⟨by (with_reducible repeat (first | apply Kd.R_alloc | apply Kd.R_drewN | apply Kd.R_drew)); exact Kd.R_mono (Kd.R_far (p := ⟨gb204, 1, none⟩) (Kd.R_types HO_17.out BK204.out (by decide)) (fun _ hk => hk.2) (.int .i64 a0_1)) (fun _ hk => trivial)⟩, ⟨by (with_reducible repeat (first | refine blk_drewN ?_ _ | refine blk_drew ?_ | refine blk_alloc ?_ _)); refine blk_far ?_ NB202_204.out _; (with_reducible repeat (first | refine blk_drewN ?_ _ | refine blk_drew ?_ | refine blk_alloc ?_ _)); exact BK202.out⟩, ⟨by (with_reducible repeat (first | refine blk_drewN ?_ _ | refine blk_drew ?_ | refine blk_alloc ?_ _)); refine blk_far ?_ NB203_204.out _; (with_reducible repeat (first | refine blk_drewN ?_ _ | refine blk_drew ?_ | refine blk_alloc ?_ _)); exact BK203.out⟩, ⟨by (with_reducible repeat (first | refine blk_drewN ?_ _ | refine blk_drew ?_ | refine blk_alloc ?_ _)); refine blk_put (cs := #[.int .i64 a0_0, .int .i64 x205001_1, .int .i64 x205002_1, .int .i64 x205003_1, .int .u64 x205004_1, .string x205005_1, .string x205006_1, .bool x205007_1]) ?_ 1 _ rfl; (with_reducible repeat (first | refine blk_drewN ?_ _ | refine blk_drew ?_ | refine blk_alloc ?_ _)); exact BK204.out⟩, ⟨by repeat (first | (with_reducible first | exact HB.out | apply below_alloc | apply pw_below_drewN | apply below_drew1 | refine below_set ?_ GE202.out | refine below_set ?_ GE203.out | refine below_set ?_ GE204.out) | exact HB.out)⟩⟩
              · rw [if_neg c23] at H
                have c23b0 : ((rd t206 x19_1) == 2) = false := beq_eq_false_iff_ne.mpr c23
                have c23b1 : ((rd t206 x19_1) != 2) = true := bne_iff_ne.mpr c23
                by_cases c29 : (rd t206 x19_1) = 3
                · rw [if_pos c29] at H
                  have c29b0 : ((rd t206 x19_1) == 3) = true := beq_iff_eq.mpr c29
                  have c29b1 : ((rd t206 x19_1) != 3) = false := bne_eq_false_iff_eq.mpr c29
                  clear c29
                  have H' := Aside0.mk H
                  clear H
                  have p209 : 0 ≤ (x19_1 : Int) := of_decide_eq_true (by first | (with_reducible assumption) | assumption)
                  have q209 : x19_1 < (t206.length : Int) := of_decide_eq_true (by first | (with_reducible assumption) | assumption)
                  obtain ⟨ad209, e209, hx209_0⟩ := Kd.at_int (Kd.R_reads' HO_17.out).2.2 x19_1 p209 q209
                  cases e209
                  replace p209 := eq_true p209
                  replace q209 := eq_true q209
                  have hnb30 := NB202_203.out
                  have hnc30 := NB203_202.out
                  have hnb31 := NB202_204.out
                  have hnc31 := NB204_202.out
                  have hcz32_0 : wr.cell? ⟨gb202, 0, none⟩ = some (.int .i64 a0_0) := (blk_cell BK202.out 0).trans rfl
                  have hcz32_1 : wr.cell? ⟨gb202, 1, none⟩ = some (.int .i64 a0_1) := (blk_cell BK202.out 1).trans rfl
                  have hcz32_2 : wr.cell? ⟨gb202, 2, none⟩ = some (.int .i64 a0_2) := (blk_cell BK202.out 2).trans rfl
                  have hcz32_3 : wr.cell? ⟨gb202, 3, none⟩ = some (.int .i64 a0_3) := (blk_cell BK202.out 3).trans rfl
                  have hcz32_4 : wr.cell? ⟨gb202, 4, none⟩ = some (.int .u64 a0_4) := (blk_cell BK202.out 4).trans rfl
                  have hcz32_5 : wr.cell? ⟨gb202, 5, none⟩ = some (.string a0_5) := (blk_cell BK202.out 5).trans rfl
                  have hcz32_6 : wr.cell? ⟨gb202, 6, none⟩ = some (.string a0_6) := (blk_cell BK202.out 6).trans rfl
                  have hcz32_7 : wr.cell? ⟨gb202, 7, none⟩ = some (.bool a0_7) := (blk_cell BK202.out 7).trans rfl
                  have hfz32_0 := blk_frozen BK202.out 0
                  have hfz32_1 := blk_frozen BK202.out 1
                  have hfz32_2 := blk_frozen BK202.out 2
                  have hfz32_3 := blk_frozen BK202.out 3
                  have hfz32_4 := blk_frozen BK202.out 4
                  have hfz32_5 := blk_frozen BK202.out 5
                  have hfz32_6 := blk_frozen BK202.out 6
                  have hfz32_7 := blk_frozen BK202.out 7
                  have hnb33 := NB204_203.out
                  have hnc33 := NB203_204.out
                  have hcz34_0 : wr.cell? ⟨gb204, 0, none⟩ = some (.int .i64 a0_0) := (blk_cell BK204.out 0).trans rfl
                  have hcz34_1 : wr.cell? ⟨gb204, 1, none⟩ = some (.int .i64 x205001_1) := (blk_cell BK204.out 1).trans rfl
                  have hcz34_2 : wr.cell? ⟨gb204, 2, none⟩ = some (.int .i64 x205002_1) := (blk_cell BK204.out 2).trans rfl
                  have hcz34_3 : wr.cell? ⟨gb204, 3, none⟩ = some (.int .i64 x205003_1) := (blk_cell BK204.out 3).trans rfl
                  have hcz34_4 : wr.cell? ⟨gb204, 4, none⟩ = some (.int .u64 x205004_1) := (blk_cell BK204.out 4).trans rfl
                  have hcz34_5 : wr.cell? ⟨gb204, 5, none⟩ = some (.string x205005_1) := (blk_cell BK204.out 5).trans rfl
                  have hcz34_6 : wr.cell? ⟨gb204, 6, none⟩ = some (.string x205006_1) := (blk_cell BK204.out 6).trans rfl
                  have hcz34_7 : wr.cell? ⟨gb204, 7, none⟩ = some (.bool x205007_1) := (blk_cell BK204.out 7).trans rfl
                  have hfz34_0 := blk_frozen BK204.out 0
                  have hfz34_1 := blk_frozen BK204.out 1
                  have hfz34_2 := blk_frozen BK204.out 2
                  have hfz34_3 := blk_frozen BK204.out 3
                  have hfz34_4 := blk_frozen BK204.out 4
                  have hfz34_5 := blk_frozen BK204.out 5
                  have hfz34_6 := blk_frozen BK204.out 6
                  have hfz34_7 := blk_frozen BK204.out 7
                  go_wp2
                  go_roundg k1
                  case measure => have := HK1.out; omega
                  case rel => exact ⟨(wrap64 (x19_1 + 1)), (x205001_1), (x205002_1), (a0_3), (x205004_1), (x205005_1), (x205006_1), (x205007_1), (by first | rfl | (simp; done) | (simp [*]; done)), H', ⟨by have := HK1.out; omega⟩, ⟨by (with_reducible repeat (first | apply Kd.R_alloc | apply Kd.R_drewN | apply Kd.R_drew)); exact Kd.R_mono (Kd.R_far (p := ⟨gb204, 3, none⟩) (Kd.R_types HO_17.out BK204.out (by decide)) (fun _ hk => hk.2) (.int .i64 a0_3)) (fun _ hk => trivial)⟩, ⟨by (with_reducible repeat (first | refine blk_drewN ?_ _ | refine blk_drew ?_ | refine blk_alloc ?_ _)); refine blk_far ?_ NB202_204.out _; (with_reducible repeat (first | refine blk_drewN ?_ _ | refine blk_drew ?_ | refine blk_alloc ?_ _)); exact BK202.out⟩, ⟨by (with_reducible repeat (first | refine blk_drewN ?_ _ | refine blk_drew ?_ | refine blk_alloc ?_ _)); refine blk_far ?_ NB203_204.out _; (with_reducible repeat (first | refine blk_drewN ?_ _ | refine blk_drew ?_ | refine blk_alloc ?_ _)); exact BK203.out⟩, ⟨by (with_reducible repeat (first | refine blk_drewN ?_ _ | refine blk_drew ?_ | refine blk_alloc ?_ _)); refine blk_put (cs := #[.int .i64 a0_0, .int .i64 x205001_1, .int .i64 x205002_1, .int .i64 x205003_1, .int .u64 x205004_1, .string x205005_1, .string x205006_1, .bool x205007_1]) ?_ 3 _ rfl; (with_reducible repeat (first | refine blk_drewN ?_ _ | refine blk_drew ?_ | refine blk_alloc ?_ _)); exact BK204.out⟩, ⟨by repeat (first | (with_reducible first | exact HB.out | apply below_alloc | apply pw_below_drewN | apply below_drew1 | refine below_set ?_ GE202.out | refine below_set ?_ GE203.out | refine below_set ?_ GE204.out) | exact HB.out)⟩⟩
                · rw [if_neg c29] at H
                  have c29b0 : ((rd t206 x19_1) == 3) = false := beq_eq_false_iff_ne.mpr c29
                  have c29b1 : ((rd t206 x19_1) != 3) = true := bne_iff_ne.mpr c29
                  by_cases c35 : (rd t206 x19_1) = 4
                  · rw [if_pos c35] at H
                    have c35b0 : ((rd t206 x19_1) == 4) = true := beq_iff_eq.mpr c35
                    have c35b1 : ((rd t206 x19_1) != 4) = false := bne_eq_false_iff_eq.mpr c35
                    clear c35
                    have H' := Aside0.mk H
                    clear H
                    have p209 : 0 ≤ (x19_1 : Int) := of_decide_eq_true (by first | (with_reducible assumption) | assumption)
                    have q209 : x19_1 < (t206.length : Int) := of_decide_eq_true (by first | (with_reducible assumption) | assumption)
                    obtain ⟨ad209, e209, hx209_0⟩ := Kd.at_int (Kd.R_reads' HO_17.out).2.2 x19_1 p209 q209
                    cases e209
                    replace p209 := eq_true p209
                    replace q209 := eq_true q209
                    have hnb36 := NB202_203.out
                    have hnc36 := NB203_202.out
                    have hnb37 := NB202_204.out
                    have hnc37 := NB204_202.out
                    have hcz38_0 : wr.cell? ⟨gb202, 0, none⟩ = some (.int .i64 a0_0) := (blk_cell BK202.out 0).trans rfl
                    have hcz38_1 : wr.cell? ⟨gb202, 1, none⟩ = some (.int .i64 a0_1) := (blk_cell BK202.out 1).trans rfl
                    have hcz38_2 : wr.cell? ⟨gb202, 2, none⟩ = some (.int .i64 a0_2) := (blk_cell BK202.out 2).trans rfl
                    have hcz38_3 : wr.cell? ⟨gb202, 3, none⟩ = some (.int .i64 a0_3) := (blk_cell BK202.out 3).trans rfl
                    have hcz38_4 : wr.cell? ⟨gb202, 4, none⟩ = some (.int .u64 a0_4) := (blk_cell BK202.out 4).trans rfl
                    have hcz38_5 : wr.cell? ⟨gb202, 5, none⟩ = some (.string a0_5) := (blk_cell BK202.out 5).trans rfl
                    have hcz38_6 : wr.cell? ⟨gb202, 6, none⟩ = some (.string a0_6) := (blk_cell BK202.out 6).trans rfl
                    have hcz38_7 : wr.cell? ⟨gb202, 7, none⟩ = some (.bool a0_7) := (blk_cell BK202.out 7).trans rfl
                    have hfz38_0 := blk_frozen BK202.out 0
                    have hfz38_1 := blk_frozen BK202.out 1
                    have hfz38_2 := blk_frozen BK202.out 2
                    have hfz38_3 := blk_frozen BK202.out 3
                    have hfz38_4 := blk_frozen BK202.out 4
                    have hfz38_5 := blk_frozen BK202.out 5
                    have hfz38_6 := blk_frozen BK202.out 6
                    have hfz38_7 := blk_frozen BK202.out 7
                    have hnb39 := NB204_203.out
                    have hnc39 := NB203_204.out
                    have hcz40_0 : wr.cell? ⟨gb204, 0, none⟩ = some (.int .i64 a0_0) := (blk_cell BK204.out 0).trans rfl
                    have hcz40_1 : wr.cell? ⟨gb204, 1, none⟩ = some (.int .i64 x205001_1) := (blk_cell BK204.out 1).trans rfl
                    have hcz40_2 : wr.cell? ⟨gb204, 2, none⟩ = some (.int .i64 x205002_1) := (blk_cell BK204.out 2).trans rfl
                    have hcz40_3 : wr.cell? ⟨gb204, 3, none⟩ = some (.int .i64 x205003_1) := (blk_cell BK204.out 3).trans rfl
                    have hcz40_4 : wr.cell? ⟨gb204, 4, none⟩ = some (.int .u64 x205004_1) := (blk_cell BK204.out 4).trans rfl
                    have hcz40_5 : wr.cell? ⟨gb204, 5, none⟩ = some (.string x205005_1) := (blk_cell BK204.out 5).trans rfl
                    have hcz40_6 : wr.cell? ⟨gb204, 6, none⟩ = some (.string x205006_1) := (blk_cell BK204.out 6).trans rfl
                    have hcz40_7 : wr.cell? ⟨gb204, 7, none⟩ = some (.bool x205007_1) := (blk_cell BK204.out 7).trans rfl
                    have hfz40_0 := blk_frozen BK204.out 0
                    have hfz40_1 := blk_frozen BK204.out 1
                    have hfz40_2 := blk_frozen BK204.out 2
                    have hfz40_3 := blk_frozen BK204.out 3
                    have hfz40_4 := blk_frozen BK204.out 4
                    have hfz40_5 := blk_frozen BK204.out 5
                    have hfz40_6 := blk_frozen BK204.out 6
                    have hfz40_7 := blk_frozen BK204.out 7
                    go_wp2
                    go_roundg k1
                    case measure => have := HK1.out; omega
                    case rel => exact ⟨(wrap64 (x19_1 + 1)), (x205001_1), (x205002_1), (x205003_1), (a0_4), (x205005_1), (x205006_1), (x205007_1), (by first | rfl | (simp; done) | (simp [*]; done)), H', ⟨by have := HK1.out; omega⟩, ⟨by (with_reducible repeat (first | apply Kd.R_alloc | apply Kd.R_drewN | apply Kd.R_drew)); exact Kd.R_mono (Kd.R_far (p := ⟨gb204, 4, none⟩) (Kd.R_types HO_17.out BK204.out (by decide)) (fun _ hk => hk.2) (.int .u64 a0_4)) (fun _ hk => trivial)⟩, ⟨by (with_reducible repeat (first | refine blk_drewN ?_ _ | refine blk_drew ?_ | refine blk_alloc ?_ _)); refine blk_far ?_ NB202_204.out _; (with_reducible repeat (first | refine blk_drewN ?_ _ | refine blk_drew ?_ | refine blk_alloc ?_ _)); exact BK202.out⟩, ⟨by (with_reducible repeat (first | refine blk_drewN ?_ _ | refine blk_drew ?_ | refine blk_alloc ?_ _)); refine blk_far ?_ NB203_204.out _; (with_reducible repeat (first | refine blk_drewN ?_ _ | refine blk_drew ?_ | refine blk_alloc ?_ _)); exact BK203.out⟩, ⟨by (with_reducible repeat (first | refine blk_drewN ?_ _ | refine blk_drew ?_ | refine blk_alloc ?_ _)); refine blk_put (cs := #[.int .i64 a0_0, .int .i64 x205001_1, .int .i64 x205002_1, .int .i64 x205003_1, .int .u64 x205004_1, .string x205005_1, .string x205006_1, .bool x205007_1]) ?_ 4 _ rfl; (with_reducible repeat (first | refine blk_drewN ?_ _ | refine blk_drew ?_ | refine blk_alloc ?_ _)); exact BK204.out⟩, ⟨by repeat (first | (with_reducible first | exact HB.out | apply below_alloc | apply pw_below_drewN | apply below_drew1 | refine below_set ?_ GE202.out | refine below_set ?_ GE203.out | refine below_set ?_ GE204.out) | exact HB.out)⟩⟩
                  · rw [if_neg c35] at H
                    have c35b0 : ((rd t206 x19_1) == 4) = false := beq_eq_false_iff_ne.mpr c35
                    have c35b1 : ((rd t206 x19_1) != 4) = true := bne_iff_ne.mpr c35
                    by_cases c41 : (rd t206 x19_1) = 5
                    · rw [if_pos c41] at H
                      have c41b0 : ((rd t206 x19_1) == 5) = true := beq_iff_eq.mpr c41
                      have c41b1 : ((rd t206 x19_1) != 5) = false := bne_eq_false_iff_eq.mpr c41
                      clear c41
                      have H' := Aside0.mk H
                      clear H
                      have p209 : 0 ≤ (x19_1 : Int) := of_decide_eq_true (by first | (with_reducible assumption) | assumption)
                      have q209 : x19_1 < (t206.length : Int) := of_decide_eq_true (by first | (with_reducible assumption) | assumption)
                      obtain ⟨ad209, e209, hx209_0⟩ := Kd.at_int (Kd.R_reads' HO_17.out).2.2 x19_1 p209 q209
                      cases e209
                      replace p209 := eq_true p209
                      replace q209 := eq_true q209
                      have hnb42 := NB202_203.out
                      have hnc42 := NB203_202.out
                      have hnb43 := NB202_204.out
                      have hnc43 := NB204_202.out
                      have hcz44_0 : wr.cell? ⟨gb202, 0, none⟩ = some (.int .i64 a0_0) := (blk_cell BK202.out 0).trans rfl
                      have hcz44_1 : wr.cell? ⟨gb202, 1, none⟩ = some (.int .i64 a0_1) := (blk_cell BK202.out 1).trans rfl
                      have hcz44_2 : wr.cell? ⟨gb202, 2, none⟩ = some (.int .i64 a0_2) := (blk_cell BK202.out 2).trans rfl
                      have hcz44_3 : wr.cell? ⟨gb202, 3, none⟩ = some (.int .i64 a0_3) := (blk_cell BK202.out 3).trans rfl
                      have hcz44_4 : wr.cell? ⟨gb202, 4, none⟩ = some (.int .u64 a0_4) := (blk_cell BK202.out 4).trans rfl
                      have hcz44_5 : wr.cell? ⟨gb202, 5, none⟩ = some (.string a0_5) := (blk_cell BK202.out 5).trans rfl
                      have hcz44_6 : wr.cell? ⟨gb202, 6, none⟩ = some (.string a0_6) := (blk_cell BK202.out 6).trans rfl
                      have hcz44_7 : wr.cell? ⟨gb202, 7, none⟩ = some (.bool a0_7) := (blk_cell BK202.out 7).trans rfl
                      have hfz44_0 := blk_frozen BK202.out 0
                      have hfz44_1 := blk_frozen BK202.out 1
                      have hfz44_2 := blk_frozen BK202.out 2
                      have hfz44_3 := blk_frozen BK202.out 3
                      have hfz44_4 := blk_frozen BK202.out 4
                      have hfz44_5 := blk_frozen BK202.out 5
                      have hfz44_6 := blk_frozen BK202.out 6
                      have hfz44_7 := blk_frozen BK202.out 7
                      have hnb45 := NB204_203.out
                      have hnc45 := NB203_204.out
                      have hcz46_0 : wr.cell? ⟨gb204, 0, none⟩ = some (.int .i64 a0_0) := (blk_cell BK204.out 0).trans rfl
                      have hcz46_1 : wr.cell? ⟨gb204, 1, none⟩ = some (.int .i64 x205001_1) := (blk_cell BK204.out 1).trans rfl
                      have hcz46_2 : wr.cell? ⟨gb204, 2, none⟩ = some (.int .i64 x205002_1) := (blk_cell BK204.out 2).trans rfl
                      have hcz46_3 : wr.cell? ⟨gb204, 3, none⟩ = some (.int .i64 x205003_1) := (blk_cell BK204.out 3).trans rfl
                      have hcz46_4 : wr.cell? ⟨gb204, 4, none⟩ = some (.int .u64 x205004_1) := (blk_cell BK204.out 4).trans rfl
                      have hcz46_5 : wr.cell? ⟨gb204, 5, none⟩ = some (.string x205005_1) := (blk_cell BK204.out 5).trans rfl
                      have hcz46_6 : wr.cell? ⟨gb204, 6, none⟩ = some (.string x205006_1) := (blk_cell BK204.out 6).trans rfl
                      have hcz46_7 : wr.cell? ⟨gb204, 7, none⟩ = some (.bool x205007_1) := (blk_cell BK204.out 7).trans rfl
                      have hfz46_0 := blk_frozen BK204.out 0
                      have hfz46_1 := blk_frozen BK204.out 1
                      have hfz46_2 := blk_frozen BK204.out 2
                      have hfz46_3 := blk_frozen BK204.out 3
                      have hfz46_4 := blk_frozen BK204.out 4
                      have hfz46_5 := blk_frozen BK204.out 5
                      have hfz46_6 := blk_frozen BK204.out 6
                      have hfz46_7 := blk_frozen BK204.out 7
                      go_wp2
                      go_roundg k1
                      case measure => have := HK1.out; omega
                      case rel => exact ⟨(wrap64 (x19_1 + 1)), (x205001_1), (x205002_1), (x205003_1), (x205004_1), (a0_5), (x205006_1), (x205007_1), (by first | rfl | (simp; done) | (simp [*]; done)), H', ⟨by have := HK1.out; omega⟩, ⟨by (with_reducible repeat (first | apply Kd.R_alloc | apply Kd.R_drewN | apply Kd.R_drew)); exact Kd.R_mono (Kd.R_far (p := ⟨gb204, 5, none⟩) (Kd.R_types HO_17.out BK204.out (by decide)) (fun _ hk => hk.2) (.string a0_5)) (fun _ hk => trivial)⟩, ⟨by (with_reducible repeat (first | refine blk_drewN ?_ _ | refine blk_drew ?_ | refine blk_alloc ?_ _)); refine blk_far ?_ NB202_204.out _; (with_reducible repeat (first | refine blk_drewN ?_ _ | refine blk_drew ?_ | refine blk_alloc ?_ _)); exact BK202.out⟩, ⟨by (with_reducible repeat (first | refine blk_drewN ?_ _ | refine blk_drew ?_ | refine blk_alloc ?_ _)); refine blk_far ?_ NB203_204.out _; (with_reducible repeat (first | refine blk_drewN ?_ _ | refine blk_drew ?_ | refine blk_alloc ?_ _)); exact BK203.out⟩, ⟨by (with_reducible repeat (first | refine blk_drewN ?_ _ | refine blk_drew ?_ | refine blk_alloc ?_ _)); refine blk_put (cs := #[.int .i64 a0_0, .int .i64 x205001_1, .int .i64 x205002_1, .int .i64 x205003_1, .int .u64 x205004_1, .string x205005_1, .string x205006_1, .bool x205007_1]) ?_ 5 _ rfl; (with_reducible repeat (first | refine blk_drewN ?_ _ | refine blk_drew ?_ | refine blk_alloc ?_ _)); exact BK204.out⟩, ⟨by repeat (first | (with_reducible first | exact HB.out | apply below_alloc | apply pw_below_drewN | apply below_drew1 | refine below_set ?_ GE202.out | refine below_set ?_ GE203.out | refine below_set ?_ GE204.out) | exact HB.out)⟩⟩
                    · rw [if_neg c41] at H
                      have c41b0 : ((rd t206 x19_1) == 5) = false := beq_eq_false_iff_ne.mpr c41
                      have c41b1 : ((rd t206 x19_1) != 5) = true := bne_iff_ne.mpr c41
                      by_cases c47 : (rd t206 x19_1) = 6
                      · rw [if_pos c47] at H
                        have c47b0 : ((rd t206 x19_1) == 6) = true := beq_iff_eq.mpr c47
                        have c47b1 : ((rd t206 x19_1) != 6) = false := bne_eq_false_iff_eq.mpr c47
                        clear c47
                        have H' := Aside0.mk H
                        clear H
                        have p209 : 0 ≤ (x19_1 : Int) := of_decide_eq_true (by first | (with_reducible assumption) | assumption)
                        have q209 : x19_1 < (t206.length : Int) := of_decide_eq_true (by first | (with_reducible assumption) | assumption)
                        obtain ⟨ad209, e209, hx209_0⟩ := Kd.at_int (Kd.R_reads' HO_17.out).2.2 x19_1 p209 q209
                        cases e209
                        replace p209 := eq_true p209
                        replace q209 := eq_true q209
                        have hnb48 := NB202_203.out
                        have hnc48 := NB203_202.out
                        have hnb49 := NB202_204.out
                        have hnc49 := NB204_202.out
                        have hcz50_0 : wr.cell? ⟨gb202, 0, none⟩ = some (.int .i64 a0_0) := (blk_cell BK202.out 0).trans rfl
                        have hcz50_1 : wr.cell? ⟨gb202, 1, none⟩ = some (.int .i64 a0_1) := (blk_cell BK202.out 1).trans rfl
                        have hcz50_2 : wr.cell? ⟨gb202, 2, none⟩ = some (.int .i64 a0_2) := (blk_cell BK202.out 2).trans rfl
                        have hcz50_3 : wr.cell? ⟨gb202, 3, none⟩ = some (.int .i64 a0_3) := (blk_cell BK202.out 3).trans rfl
                        have hcz50_4 : wr.cell? ⟨gb202, 4, none⟩ = some (.int .u64 a0_4) := (blk_cell BK202.out 4).trans rfl
                        have hcz50_5 : wr.cell? ⟨gb202, 5, none⟩ = some (.string a0_5) := (blk_cell BK202.out 5).trans rfl
                        have hcz50_6 : wr.cell? ⟨gb202, 6, none⟩ = some (.string a0_6) := (blk_cell BK202.out 6).trans rfl
                        have hcz50_7 : wr.cell? ⟨gb202, 7, none⟩ = some (.bool a0_7) := (blk_cell BK202.out 7).trans rfl
                        have hfz50_0 := blk_frozen BK202.out 0
                        have hfz50_1 := blk_frozen BK202.out 1
                        have hfz50_2 := blk_frozen BK202.out 2
                        have hfz50_3 := blk_frozen BK202.out 3
                        have hfz50_4 := blk_frozen BK202.out 4
                        have hfz50_5 := blk_frozen BK202.out 5
                        have hfz50_6 := blk_frozen BK202.out 6
                        have hfz50_7 := blk_frozen BK202.out 7
                        have hnb51 := NB204_203.out
                        have hnc51 := NB203_204.out
                        have hcz52_0 : wr.cell? ⟨gb204, 0, none⟩ = some (.int .i64 a0_0) := (blk_cell BK204.out 0).trans rfl
                        have hcz52_1 : wr.cell? ⟨gb204, 1, none⟩ = some (.int .i64 x205001_1) := (blk_cell BK204.out 1).trans rfl
                        have hcz52_2 : wr.cell? ⟨gb204, 2, none⟩ = some (.int .i64 x205002_1) := (blk_cell BK204.out 2).trans rfl
                        have hcz52_3 : wr.cell? ⟨gb204, 3, none⟩ = some (.int .i64 x205003_1) := (blk_cell BK204.out 3).trans rfl
                        have hcz52_4 : wr.cell? ⟨gb204, 4, none⟩ = some (.int .u64 x205004_1) := (blk_cell BK204.out 4).trans rfl
                        have hcz52_5 : wr.cell? ⟨gb204, 5, none⟩ = some (.string x205005_1) := (blk_cell BK204.out 5).trans rfl
                        have hcz52_6 : wr.cell? ⟨gb204, 6, none⟩ = some (.string x205006_1) := (blk_cell BK204.out 6).trans rfl
                        have hcz52_7 : wr.cell? ⟨gb204, 7, none⟩ = some (.bool x205007_1) := (blk_cell BK204.out 7).trans rfl
                        have hfz52_0 := blk_frozen BK204.out 0
                        have hfz52_1 := blk_frozen BK204.out 1
                        have hfz52_2 := blk_frozen BK204.out 2
                        have hfz52_3 := blk_frozen BK204.out 3
                        have hfz52_4 := blk_frozen BK204.out 4
                        have hfz52_5 := blk_frozen BK204.out 5
                        have hfz52_6 := blk_frozen BK204.out 6
                        have hfz52_7 := blk_frozen BK204.out 7
                        go_wp2
                        go_roundg k1
                        case measure => have := HK1.out; omega
                        case rel => exact ⟨(wrap64 (x19_1 + 1)), (x205001_1), (x205002_1), (x205003_1), (x205004_1), (x205005_1), (a0_6), (x205007_1), (by first | rfl | (simp; done) | (simp [*]; done)), H', ⟨by have := HK1.out; omega⟩, ⟨by (with_reducible repeat (first | apply Kd.R_alloc | apply Kd.R_drewN | apply Kd.R_drew)); exact Kd.R_mono (Kd.R_far (p := ⟨gb204, 6, none⟩) (Kd.R_types HO_17.out BK204.out (by decide)) (fun _ hk => hk.2) (.string a0_6)) (fun _ hk => trivial)⟩, ⟨by (with_reducible repeat (first | refine blk_drewN ?_ _ | refine blk_drew ?_ | refine blk_alloc ?_ _)); refine blk_far ?_ NB202_204.out _; (with_reducible repeat (first | refine blk_drewN ?_ _ | refine blk_drew ?_ | refine blk_alloc ?_ _)); exact BK202.out⟩, ⟨by (with_reducible repeat (first | refine blk_drewN ?_ _ | refine blk_drew ?_ | refine blk_alloc ?_ _)); refine blk_far ?_ NB203_204.out _; (with_reducible repeat (first | refine blk_drewN ?_ _ | refine blk_drew ?_ | refine blk_alloc ?_ _)); exact BK203.out⟩, ⟨by (with_reducible repeat (first | refine blk_drewN ?_ _ | refine blk_drew ?_ | refine blk_alloc ?_ _)); refine blk_put (cs := #[.int .i64 a0_0, .int .i64 x205001_1, .int .i64 x205002_1, .int .i64 x205003_1, .int .u64 x205004_1, .string x205005_1, .string x205006_1, .bool x205007_1]) ?_ 6 _ rfl; (with_reducible repeat (first | refine blk_drewN ?_ _ | refine blk_drew ?_ | refine blk_alloc ?_ _)); exact BK204.out⟩, ⟨by repeat (first | (with_reducible first | exact HB.out | apply below_alloc | apply pw_below_drewN | apply below_drew1 | refine below_set ?_ GE202.out | refine below_set ?_ GE203.out | refine below_set ?_ GE204.out) | exact HB.out)⟩⟩
                      · rw [if_neg c47] at H
                        have c47b0 : ((rd t206 x19_1) == 6) = false := beq_eq_false_iff_ne.mpr c47
                        have c47b1 : ((rd t206 x19_1) != 6) = true := bne_iff_ne.mpr c47
                        by_cases c53 : (rd t206 x19_1) = 7
                        · rw [if_pos c53] at H
                          have c53b0 : ((rd t206 x19_1) == 7) = true := beq_iff_eq.mpr c53
                          have c53b1 : ((rd t206 x19_1) != 7) = false := bne_eq_false_iff_eq.mpr c53
                          clear c53
                          have H' := Aside0.mk H
                          clear H
                          have p209 : 0 ≤ (x19_1 : Int) := of_decide_eq_true (by first | (with_reducible assumption) | assumption)
                          have q209 : x19_1 < (t206.length : Int) := of_decide_eq_true (by first | (with_reducible assumption) | assumption)
                          obtain ⟨ad209, e209, hx209_0⟩ := Kd.at_int (Kd.R_reads' HO_17.out).2.2 x19_1 p209 q209
                          cases e209
                          replace p209 := eq_true p209
                          replace q209 := eq_true q209
                          have hnb54 := NB202_203.out
                          have hnc54 := NB203_202.out
                          have hnb55 := NB202_204.out
                          have hnc55 := NB204_202.out
                          have hcz56_0 : wr.cell? ⟨gb202, 0, none⟩ = some (.int .i64 a0_0) := (blk_cell BK202.out 0).trans rfl
                          have hcz56_1 : wr.cell? ⟨gb202, 1, none⟩ = some (.int .i64 a0_1) := (blk_cell BK202.out 1).trans rfl
                          have hcz56_2 : wr.cell? ⟨gb202, 2, none⟩ = some (.int .i64 a0_2) := (blk_cell BK202.out 2).trans rfl
                          have hcz56_3 : wr.cell? ⟨gb202, 3, none⟩ = some (.int .i64 a0_3) := (blk_cell BK202.out 3).trans rfl
                          have hcz56_4 : wr.cell? ⟨gb202, 4, none⟩ = some (.int .u64 a0_4) := (blk_cell BK202.out 4).trans rfl
                          have hcz56_5 : wr.cell? ⟨gb202, 5, none⟩ = some (.string a0_5) := (blk_cell BK202.out 5).trans rfl
                          have hcz56_6 : wr.cell? ⟨gb202, 6, none⟩ = some (.string a0_6) := (blk_cell BK202.out 6).trans rfl
                          have hcz56_7 : wr.cell? ⟨gb202, 7, none⟩ = some (.bool a0_7) := (blk_cell BK202.out 7).trans rfl
                          have hfz56_0 := blk_frozen BK202.out 0
                          have hfz56_1 := blk_frozen BK202.out 1
                          have hfz56_2 := blk_frozen BK202.out 2
                          have hfz56_3 := blk_frozen BK202.out 3
                          have hfz56_4 := blk_frozen BK202.out 4
                          have hfz56_5 := blk_frozen BK202.out 5
                          have hfz56_6 := blk_frozen BK202.out 6
                          have hfz56_7 := blk_frozen BK202.out 7
                          have hnb57 := NB204_203.out
                          have hnc57 := NB203_204.out
                          have hcz58_0 : wr.cell? ⟨gb204, 0, none⟩ = some (.int .i64 a0_0) := (blk_cell BK204.out 0).trans rfl
                          have hcz58_1 : wr.cell? ⟨gb204, 1, none⟩ = some (.int .i64 x205001_1) := (blk_cell BK204.out 1).trans rfl
                          have hcz58_2 : wr.cell? ⟨gb204, 2, none⟩ = some (.int .i64 x205002_1) := (blk_cell BK204.out 2).trans rfl
                          have hcz58_3 : wr.cell? ⟨gb204, 3, none⟩ = some (.int .i64 x205003_1) := (blk_cell BK204.out 3).trans rfl
                          have hcz58_4 : wr.cell? ⟨gb204, 4, none⟩ = some (.int .u64 x205004_1) := (blk_cell BK204.out 4).trans rfl
                          have hcz58_5 : wr.cell? ⟨gb204, 5, none⟩ = some (.string x205005_1) := (blk_cell BK204.out 5).trans rfl
                          have hcz58_6 : wr.cell? ⟨gb204, 6, none⟩ = some (.string x205006_1) := (blk_cell BK204.out 6).trans rfl
                          have hcz58_7 : wr.cell? ⟨gb204, 7, none⟩ = some (.bool x205007_1) := (blk_cell BK204.out 7).trans rfl
                          have hfz58_0 := blk_frozen BK204.out 0
                          have hfz58_1 := blk_frozen BK204.out 1
                          have hfz58_2 := blk_frozen BK204.out 2
                          have hfz58_3 := blk_frozen BK204.out 3
                          have hfz58_4 := blk_frozen BK204.out 4
                          have hfz58_5 := blk_frozen BK204.out 5
                          have hfz58_6 := blk_frozen BK204.out 6
                          have hfz58_7 := blk_frozen BK204.out 7
                          go_wp2
                          go_roundg k1
                          case measure => have := HK1.out; omega
                          case rel => exact ⟨(wrap64 (x19_1 + 1)), (x205001_1), (x205002_1), (x205003_1), (x205004_1), (x205005_1), (x205006_1), (a0_7), (by first | rfl | (simp; done) | (simp [*]; done)), H', ⟨by have := HK1.out; omega⟩, ⟨by (with_reducible repeat (first | apply Kd.R_alloc | apply Kd.R_drewN | apply Kd.R_drew)); exact Kd.R_mono (Kd.R_far (p := ⟨gb204, 7, none⟩) (Kd.R_types HO_17.out BK204.out (by decide)) (fun _ hk => hk.2) (.bool a0_7)) (fun _ hk => trivial)⟩, ⟨by (with_reducible repeat (first | refine blk_drewN ?_ _ | refine blk_drew ?_ | refine blk_alloc ?_ _)); refine blk_far ?_ NB202_204.out _; (with_reducible repeat (first | refine blk_drewN ?_ _ | refine blk_drew ?_ | refine blk_alloc ?_ _)); exact BK202.out⟩, ⟨by (with_reducible repeat (first | refine blk_drewN ?_ _ | refine blk_drew ?_ | refine blk_alloc ?_ _)); refine blk_far ?_ NB203_204.out _; (with_reducible repeat (first | refine blk_drewN ?_ _ | refine blk_drew ?_ | refine blk_alloc ?_ _)); exact BK203.out⟩, ⟨by (with_reducible repeat (first | refine blk_drewN ?_ _ | refine blk_drew ?_ | refine blk_alloc ?_ _)); refine blk_put (cs := #[.int .i64 a0_0, .int .i64 x205001_1, .int .i64 x205002_1, .int .i64 x205003_1, .int .u64 x205004_1, .string x205005_1, .string x205006_1, .bool x205007_1]) ?_ 7 _ rfl; (with_reducible repeat (first | refine blk_drewN ?_ _ | refine blk_drew ?_ | refine blk_alloc ?_ _)); exact BK204.out⟩, ⟨by repeat (first | (with_reducible first | exact HB.out | apply below_alloc | apply pw_below_drewN | apply below_drew1 | refine below_set ?_ GE202.out | refine below_set ?_ GE203.out | refine below_set ?_ GE204.out) | exact HB.out)⟩⟩
                        · rw [if_neg c53] at H
                          have c53b0 : ((rd t206 x19_1) == 7) = false := beq_eq_false_iff_ne.mpr c53
                          have c53b1 : ((rd t206 x19_1) != 7) = true := bne_iff_ne.mpr c53
                          have H' := Aside0.mk H
                          clear H
                          have p209 : 0 ≤ (x19_1 : Int) := of_decide_eq_true (by first | (with_reducible assumption) | assumption)
                          have q209 : x19_1 < (t206.length : Int) := of_decide_eq_true (by first | (with_reducible assumption) | assumption)
                          obtain ⟨ad209, e209, hx209_0⟩ := Kd.at_int (Kd.R_reads' HO_17.out).2.2 x19_1 p209 q209
                          cases e209
                          replace p209 := eq_true p209
                          replace q209 := eq_true q209
                          go_wp2
                          go_roundg k1
                          case measure => have := HK1.out; omega
                          case rel => exact ⟨(wrap64 (x19_1 + 1)), (x205001_1), (x205002_1), (x205003_1), (x205004_1), (x205005_1), (x205006_1), (x205007_1), (by first | rfl | (simp; done) | (simp [*]; done)), H', ⟨by have := HK1.out; omega⟩, ⟨by (with_reducible repeat (first | apply Kd.R_alloc | apply Kd.R_drewN | apply Kd.R_drew)); exact HO_17.out⟩, ⟨by (with_reducible repeat (first | refine blk_drewN ?_ _ | refine blk_drew ?_ | refine blk_alloc ?_ _)); exact BK202.out⟩, ⟨by (with_reducible repeat (first | refine blk_drewN ?_ _ | refine blk_drew ?_ | refine blk_alloc ?_ _)); exact BK203.out⟩, ⟨by (with_reducible repeat (first | refine blk_drewN ?_ _ | refine blk_drew ?_ | refine blk_alloc ?_ _)); exact BK204.out⟩, ⟨by repeat (first | (with_reducible first | exact HB.out | apply below_alloc | apply pw_below_drewN | apply below_drew1 | refine below_set ?_ GE202.out | refine below_set ?_ GE203.out | refine below_set ?_ GE204.out) | exact HB.out)⟩⟩
          · rw [if_neg c16] at H
            exact absurd H (by simp)
        · rw [if_neg c15] at H
          exact absurd H (by simp)
      · rw [if_neg c14] at H
        have c14b0 : decide (x19_1 < (t206.length : Int)) = false := decide_eq_false c14
        clear c14
        simp only [Option.some.injEq, Prod.mk.injEq] at H
        obtain ⟨rfl, rfl, rfl, rfl, rfl, rfl, rfl, rfl⟩ := H
        have hnb59 := NB204_202.out
        have hnc59 := NB202_204.out
        have hnb60 := NB204_203.out
        have hnc60 := NB203_204.out
        have hcz61_0 : wr.cell? ⟨gb204, 0, none⟩ = some (.int .i64 a0_0) := (blk_cell BK204.out 0).trans rfl
        have hcz61_1 : wr.cell? ⟨gb204, 1, none⟩ = some (.int .i64 x205001_1) := (blk_cell BK204.out 1).trans rfl
        have hcz61_2 : wr.cell? ⟨gb204, 2, none⟩ = some (.int .i64 x205002_1) := (blk_cell BK204.out 2).trans rfl
        have hcz61_3 : wr.cell? ⟨gb204, 3, none⟩ = some (.int .i64 x205003_1) := (blk_cell BK204.out 3).trans rfl
        have hcz61_4 : wr.cell? ⟨gb204, 4, none⟩ = some (.int .u64 x205004_1) := (blk_cell BK204.out 4).trans rfl
        have hcz61_5 : wr.cell? ⟨gb204, 5, none⟩ = some (.string x205005_1) := (blk_cell BK204.out 5).trans rfl
        have hcz61_6 : wr.cell? ⟨gb204, 6, none⟩ = some (.string x205006_1) := (blk_cell BK204.out 6).trans rfl
        have hcz61_7 : wr.cell? ⟨gb204, 7, none⟩ = some (.bool x205007_1) := (blk_cell BK204.out 7).trans rfl
        have hfz61_0 := blk_frozen BK204.out 0
        have hfz61_1 := blk_frozen BK204.out 1
        have hfz61_2 := blk_frozen BK204.out 2
        have hfz61_3 := blk_frozen BK204.out 3
        have hfz61_4 := blk_frozen BK204.out 4
        have hfz61_5 := blk_frozen BK204.out 5
        have hfz61_6 := blk_frozen BK204.out 6
        have hfz61_7 := blk_frozen BK204.out 7
        have hnb62 := NB203_202.out
        have hnc62 := NB202_203.out
        have hcz63_0 : wr.cell? ⟨gb203, 0, none⟩ = some (.int .i64 0) := (blk_cell BK203.out 0).trans rfl
        have hcz63_1 : wr.cell? ⟨gb203, 1, none⟩ = some (.int .i64 0) := (blk_cell BK203.out 1).trans rfl
        have hcz63_2 : wr.cell? ⟨gb203, 2, none⟩ = some (.int .i64 0) := (blk_cell BK203.out 2).trans rfl
        have hcz63_3 : wr.cell? ⟨gb203, 3, none⟩ = some (.int .i64 0) := (blk_cell BK203.out 3).trans rfl
        have hcz63_4 : wr.cell? ⟨gb203, 4, none⟩ = some (.int .u64 0) := (blk_cell BK203.out 4).trans rfl
        have hcz63_5 : wr.cell? ⟨gb203, 5, none⟩ = some (.string (⟨#[]⟩ : ByteArray)) := (blk_cell BK203.out 5).trans rfl
        have hcz63_6 : wr.cell? ⟨gb203, 6, none⟩ = some (.string (⟨#[]⟩ : ByteArray)) := (blk_cell BK203.out 6).trans rfl
        have hcz63_7 : wr.cell? ⟨gb203, 7, none⟩ = some (.bool false) := (blk_cell BK203.out 7).trans rfl
        have hfz63_0 := blk_frozen BK203.out 0
        have hfz63_1 := blk_frozen BK203.out 1
        have hfz63_2 := blk_frozen BK203.out 2
        have hfz63_3 := blk_frozen BK203.out 3
        have hfz63_4 := blk_frozen BK203.out 4
        have hfz63_5 := blk_frozen BK203.out 5
        have hfz63_6 := blk_frozen BK203.out 6
        have hfz63_7 := blk_frozen BK203.out 7
        go_wp2
        refine bodyPost_ret (results_cell_row rfl _ _ gb203 32 #[.int .i64 a0_0, .int .i64 x205001_1, .int .i64 x205002_1, .int .i64 x205003_1, .int .u64 x205004_1, .string x205005_1, .string x205006_1, .bool x205007_1] (0, 0) _ rfl (by (with_reducible repeat (first | refine blk_drewN ?_ _ | refine blk_drew ?_ | refine blk_alloc ?_ _)); refine blk_put (cs := #[.int .i64 a0_0, .int .i64 x205001_1, .int .i64 x205002_1, .int .i64 x205003_1, .int .u64 x205004_1, .string x205005_1, .string x205006_1, .bool false]) ?_ 7 _ rfl; (with_reducible repeat (first | refine blk_drewN ?_ _ | refine blk_drew ?_ | refine blk_alloc ?_ _)); refine blk_put (cs := #[.int .i64 a0_0, .int .i64 x205001_1, .int .i64 x205002_1, .int .i64 x205003_1, .int .u64 x205004_1, .string x205005_1, .string (⟨#[]⟩ : ByteArray), .bool false]) ?_ 6 _ rfl; (with_reducible repeat (first | refine blk_drewN ?_ _ | refine blk_drew ?_ | refine blk_alloc ?_ _)); refine blk_put (cs := #[.int .i64 a0_0, .int .i64 x205001_1, .int .i64 x205002_1, .int .i64 x205003_1, .int .u64 x205004_1, .string (⟨#[]⟩ : ByteArray), .string (⟨#[]⟩ : ByteArray), .bool false]) ?_ 5 _ rfl; (with_reducible repeat (first | refine blk_drewN ?_ _ | refine blk_drew ?_ | refine blk_alloc ?_ _)); refine blk_put (cs := #[.int .i64 a0_0, .int .i64 x205001_1, .int .i64 x205002_1, .int .i64 x205003_1, .int .u64 0, .string (⟨#[]⟩ : ByteArray), .string (⟨#[]⟩ : ByteArray), .bool false]) ?_ 4 _ rfl; (with_reducible repeat (first | refine blk_drewN ?_ _ | refine blk_drew ?_ | refine blk_alloc ?_ _)); refine blk_put (cs := #[.int .i64 a0_0, .int .i64 x205001_1, .int .i64 x205002_1, .int .i64 0, .int .u64 0, .string (⟨#[]⟩ : ByteArray), .string (⟨#[]⟩ : ByteArray), .bool false]) ?_ 3 _ rfl; (with_reducible repeat (first | refine blk_drewN ?_ _ | refine blk_drew ?_ | refine blk_alloc ?_ _)); refine blk_put (cs := #[.int .i64 a0_0, .int .i64 x205001_1, .int .i64 0, .int .i64 0, .int .u64 0, .string (⟨#[]⟩ : ByteArray), .string (⟨#[]⟩ : ByteArray), .bool false]) ?_ 2 _ rfl; (with_reducible repeat (first | refine blk_drewN ?_ _ | refine blk_drew ?_ | refine blk_alloc ?_ _)); refine blk_put (cs := #[.int .i64 a0_0, .int .i64 0, .int .i64 0, .int .i64 0, .int .u64 0, .string (⟨#[]⟩ : ByteArray), .string (⟨#[]⟩ : ByteArray), .bool false]) ?_ 1 _ rfl; (with_reducible repeat (first | refine blk_drewN ?_ _ | refine blk_drew ?_ | refine blk_alloc ?_ _)); refine blk_put (cs := #[.int .i64 0, .int .i64 0, .int .i64 0, .int .i64 0, .int .u64 0, .string (⟨#[]⟩ : ByteArray), .string (⟨#[]⟩ : ByteArray), .bool false]) ?_ 0 _ rfl; (with_reducible repeat (first | refine blk_drewN ?_ _ | refine blk_drew ?_ | refine blk_alloc ?_ _)); exact BK203.out) Tryd.underlying32 rfl (by kernel_rfl)) rfl ?_
        exact ⟨by first | rfl | (simp [errW_none, errW_some] <;> rfl) | (simp [*, errW_none, errW_some] <;> rfl), by repeat (first | (with_reducible first | exact HB.out | apply below_alloc | apply pw_below_drewN | apply below_drew1 | refine below_set ?_ GE202.out | refine below_set ?_ GE203.out | refine below_set ?_ GE204.out) | exact HB.out)⟩

end Go.Proofs.YtflbkgpmepfhlaaDoor.HSay
