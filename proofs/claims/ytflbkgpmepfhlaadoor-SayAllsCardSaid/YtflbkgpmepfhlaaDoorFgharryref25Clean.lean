import Derived.Test.YtflbkgpmepfhlaaDoorFtypes
import Derived.Test.YtflbkgpmepfhlaaDoorFgharryref25known
import Derived.Test.YtflbkgpmepfhlaaDoorFgharryref25args
namespace Go.Proofs.YtflbkgpmepfhlaaDoor.HSay
open Go.RowKit Go.Proofs.YtflbkgpmepfhlaaDoor.Hook Go.Proofs.YtflbkgpmepfhlaaDoorW.PrintWords Go.Proofs.YtflbkgpmepfhlaaDoorW.PrintLast Go.Proofs.YtflbkgpmepfhlaaDoorW.PrintMore
attribute [local go_sem] max2_int min2_int max_two min_two max_three min_three max_four min_four   -- for this text's walks alone
set_option linter.unusedVariables false
set_option linter.unusedSimpArgs false




def gharryref25_Clean.l0 : Nat → ByteArray → Int → Int → Int → Int → Int → Int → ByteArray → ByteArray → Bool → Int → Int → Int → Int → Int → ByteArray → ByteArray → Bool → Option (Int × Int × Int × Int × Int × ByteArray × ByteArray × Bool)
  | 0, _, _, _, _, _, _, _, _, _, _, _, _, _, _, _, _, _, _ => none
  | k + 1, x4, x5, x215000, x215001, x215002, x215003, x215004, x215005, x215006, x215007, x217000, x217001, x217002, x217003, x217004, x217005, x217006, x217007 => if x5 < (x4.size : Int) then (if 0 ≤ x5 then (if (bt x4 x5) = 119 then (gharryref25_Clean.l0 k x4 (wrap64 (x5 + 1)) x215000 x215001 x215002 x215003 x215004 x215005 x215006 x215007 x217000 x217001 x215002 x217003 x217004 x217005 x217006 x217007) else (if (bt x4 x5) = 110 then (gharryref25_Clean.l0 k x4 (wrap64 (x5 + 1)) x215000 x215001 x215002 x215003 x215004 x215005 x215006 x215007 x217000 x215001 x217002 x217003 x217004 x217005 x217006 x217007) else (if (bt x4 x5) = 107 then (gharryref25_Clean.l0 k x4 (wrap64 (x5 + 1)) x215000 x215001 x215002 x215003 x215004 x215005 x215006 x215007 x217000 x217001 x217002 x217003 x217004 x215005 x217006 x217007) else (if (bt x4 x5) = 118 then (gharryref25_Clean.l0 k x4 (wrap64 (x5 + 1)) x215000 x215001 x215002 x215003 x215004 x215005 x215006 x215007 x217000 x217001 x217002 x217003 x217004 x217005 x215006 x217007) else (if (bt x4 x5) = 99 then (gharryref25_Clean.l0 k x4 (wrap64 (x5 + 1)) x215000 x215001 x215002 x215003 x215004 x215005 x215006 x215007 x217000 x217001 x217002 x215003 x217004 x217005 x217006 x217007) else (if (bt x4 x5) = 109 then (gharryref25_Clean.l0 k x4 (wrap64 (x5 + 1)) x215000 x215001 x215002 x215003 x215004 x215005 x215006 x215007 x217000 x217001 x217002 x217003 x215004 x217005 x217006 x217007) else (gharryref25_Clean.l0 k x4 (wrap64 (x5 + 1)) x215000 x215001 x215002 x215003 x215004 x215005 x215006 x215007 x217000 x217001 x217002 x217003 x217004 x217005 x217006 x215007))))))) else (none)) else (some (x217000, x217001, x217002, x217003, x217004, x217005, x217006, x217007))
def gharryref25_Clean.f (k : Nat) (a0_0 : Int) (a0_1 : Int) (a0_2 : Int) (a0_3 : Int) (a0_4 : Int) (a0_5 : ByteArray) (a0_6 : ByteArray) (a0_7 : Bool) : Option (Int × Int × Int × Int × Int × ByteArray × ByteArray × Bool) := (gharryref25_known.f a0_0).bind fun t217 => (if t217 = true then ((gharryref25_args.f a0_0).bind fun t218 => (gharryref25_Clean.l0 k t218 0 a0_0 a0_1 a0_2 a0_3 a0_4 a0_5 a0_6 a0_7 a0_0 0 0 0 0 (⟨#[]⟩ : ByteArray) (⟨#[]⟩ : ByteArray) false)) else (some (a0_0, 0, 0, 0, 0, (⟨#[]⟩ : ByteArray), (⟨#[]⟩ : ByteArray), false)))
theorem gharryref25_Clean.mono_l : ∀ k, (∀ y0 y1 y2 y3 y4 y5 y6 y7 y8 y9 y10 y11 y12 y13 y14 y15 y16 y17, LeO (gharryref25_Clean.l0 k y0 y1 y2 y3 y4 y5 y6 y7 y8 y9 y10 y11 y12 y13 y14 y15 y16 y17) (gharryref25_Clean.l0 (k + 1) y0 y1 y2 y3 y4 y5 y6 y7 y8 y9 y10 y11 y12 y13 y14 y15 y16 y17))
  | 0 => fun _ _ _ _ _ _ _ _ _ _ _ _ _ _ _ _ _ _ r h => by simp [gharryref25_Clean.l0] at h
  | k + 1 => by
    have ih0 := gharryref25_Clean.mono_l k
    · intro y0 y1 y2 y3 y4 y5 y6 y7 y8 y9 y10 y11 y12 y13 y14 y15 y16 y17
      unfold gharryref25_Clean.l0
      repeat' first
      | (with_reducible exact ih0 _ _ _ _ _ _ _ _ _ _ _ _ _ _ _ _ _ _)
      | (with_reducible exact LeO.refl _)
      | (with_reducible exact LeO.none _)
      | (with_reducible refine LeO.ite ?_ ?_)
      | (with_reducible refine LeO.bind ?_ (fun _ => ?_))
      | exact ih0 _ _ _ _ _ _ _ _ _ _ _ _ _ _ _ _ _ _
      | exact LeO.none _
      | refine LeO.ite ?_ ?_
      | refine LeO.bind ?_ (fun _ => ?_)
theorem gharryref25_Clean.mono : ∀ a0 a1 a2 a3 a4 a5 a6 a7 k, LeO (gharryref25_Clean.f k a0 a1 a2 a3 a4 a5 a6 a7) (gharryref25_Clean.f (k + 1) a0 a1 a2 a3 a4 a5 a6 a7) := by
  intro a0 a1 a2 a3 a4 a5 a6 a7 k
  have ih0 := gharryref25_Clean.mono_l k
  unfold gharryref25_Clean.f
  repeat' first
      | (with_reducible exact ih0 _ _ _ _ _ _ _ _ _ _ _ _ _ _ _ _ _ _)
      | (with_reducible exact LeO.refl _)
      | (with_reducible exact LeO.none _)
      | (with_reducible refine LeO.ite ?_ ?_)
      | (with_reducible refine LeO.bind ?_ (fun _ => ?_))
      | exact ih0 _ _ _ _ _ _ _ _ _ _ _ _ _ _ _ _ _ _
      | exact LeO.none _
      | refine LeO.ite ?_ ?_
      | refine LeO.bind ?_ (fun _ => ?_)
set_option maxHeartbeats 8000000 in
set_option maxRecDepth 100000 in
theorem gharryref25_Clean.calls (k : Nat) (a0_0 : Int) (a0_1 : Int) (a0_2 : Int) (a0_3 : Int) (a0_4 : Int) (a0_5 : ByteArray) (a0_6 : ByteArray) (a0_7 : Bool) (r1 : Int) (r2 : Int) (r3 : Int) (r4 : Int) (r5 : Int) (r6 : ByteArray) (r7 : ByteArray) (r8 : Bool) (w : World) (h : gharryref25_Clean.f k a0_0 a0_1 a0_2 a0_3 a0_4 a0_5 a0_6 a0_7 = some (r1, r2, r3, r4, r5, r6, r7, r8)) :
    Calls Tryd.prog 21 #[.agg #[.int .i64 a0_0, .int .i64 a0_1, .int .i64 a0_2, .int .i64 a0_3, .int .u64 a0_4, .string a0_5, .string a0_6, .bool a0_7]] w fun e w' => e = .returned (.agg #[.int .i64 r1, .int .i64 r2, .int .i64 r3, .int .i64 r4, .int .u64 r5, .string r6, .string r7, .bool r8]) ∧ Below w.heap.size w w' := by
  have hu32 := Tryd.underlying32
  have HB := Aside0.mk (Below.refl w.heap.size w)
  have H : ((gharryref25_known.f a0_0).bind fun t217 => (if t217 = true then ((gharryref25_args.f a0_0).bind fun t218 => (gharryref25_Clean.l0 k t218 0 a0_0 a0_1 a0_2 a0_3 a0_4 a0_5 a0_6 a0_7 a0_0 0 0 0 0 (⟨#[]⟩ : ByteArray) (⟨#[]⟩ : ByteArray) false)) else (some (a0_0, 0, 0, 0, 0, (⟨#[]⟩ : ByteArray), (⟨#[]⟩ : ByteArray), false)))) = some (r1, r2, r3, r4, r5, r6, r7, r8) := h
  clear h
  replace H := Option.bind_eq_some_iff.mp H
  obtain ⟨t217, A20, H⟩ := H
  replace H : (if t217 = true then ((gharryref25_args.f a0_0).bind fun t218 => (gharryref25_Clean.l0 k t218 0 a0_0 a0_1 a0_2 a0_3 a0_4 a0_5 a0_6 a0_7 a0_0 0 0 0 0 (⟨#[]⟩ : ByteArray) (⟨#[]⟩ : ByteArray) false)) else (some (a0_0, 0, 0, 0, 0, (⟨#[]⟩ : ByteArray), (⟨#[]⟩ : ByteArray), false))) = some (r1, r2, r3, r4, r5, r6, r7, r8) := H
  have A2 := Aside0.mk A20
  clear A20
  by_cases c3 : t217 = true
  · subst c3
    have H1 : ((gharryref25_args.f a0_0).bind fun t218 => (gharryref25_Clean.l0 k t218 0 a0_0 a0_1 a0_2 a0_3 a0_4 a0_5 a0_6 a0_7 a0_0 0 0 0 0 (⟨#[]⟩ : ByteArray) (⟨#[]⟩ : ByteArray) false)) = some (r1, r2, r3, r4, r5, r6, r7, r8) := by rw [if_pos rfl] at H; exact H
    clear H
    have H := H1
    clear H1
    replace H := Option.bind_eq_some_iff.mp H
    obtain ⟨t218, A40, H⟩ := H
    replace H : (gharryref25_Clean.l0 k t218 0 a0_0 a0_1 a0_2 a0_3 a0_4 a0_5 a0_6 a0_7 a0_0 0 0 0 0 (⟨#[]⟩ : ByteArray) (⟨#[]⟩ : ByteArray) false) = some (r1, r2, r3, r4, r5, r6, r7, r8) := H
    have A4 := Aside0.mk A40
    clear A40
    have H' := Aside0.mk H
    clear H
    go_enter Tryd.func21, Tryd.ntmps21
    go_wp2_with (first | ((with_reducible refine gate_dst (N := 1) rfl ?_); refine box_event ?hg (N := 1) ?hd (cs := #[.int .i64 a0_0, .int .i64 a0_1, .int .i64 a0_2, .int .i64 a0_3, .int .u64 a0_4, .string a0_5, .string a0_6, .bool a0_7]) (t := 32) ?hr ?_; (case hd => rfl); (case hg => rfl); (case hr => first | (go_simp; done) | (go_simp; rfl)); intro gb214 hg w5 hbox hb; have n0_ := Aside0.mk (below_step (by repeat (first | (with_reducible first | exact HB.out | apply below_alloc | apply pw_below_drewN | apply below_drew1) | exact HB.out)) hb); have n1_ := Aside0.mk (hbox); have n2_ := Aside0.mk ((by rw [hg]; exact (below_size (by repeat (first | (with_reducible first | exact HB.out | apply below_alloc | apply pw_below_drewN | apply below_drew1) | exact HB.out))) : w.heap.size ≤ gb214)); have n3_ := Aside0.mk ((by rw [hg]; exact (below_size (by repeat (first | (with_reducible first | exact HB.out | apply below_alloc | apply pw_below_drewN | apply below_drew1) | exact HB.out))) : w.heap.size ≤ gb214)); clear HB; have HB := n0_; have BK214 := n1_; have GW214 := n2_; have GE214 := n3_; clear n0_ n1_ n2_ n3_; clear hb hbox hg) | ((with_reducible refine gate_dst (N := 2) rfl ?_); refine box_event ?hg (N := 2) ?hd (cs := #[.int .i64 0, .int .i64 0, .int .i64 0, .int .i64 0, .int .u64 0, .string (⟨#[]⟩ : ByteArray), .string (⟨#[]⟩ : ByteArray), .bool false]) (t := 32) ?hr ?_; (case hd => rfl); (case hg => rfl); (case hr => first | (go_simp; done) | (go_simp; rfl)); intro gb215 hg w6 hbox hb; have n0_ := Aside0.mk (blk_below (g := gb214) (o := .cells #[.int .i64 a0_0, .int .i64 a0_1, .int .i64 a0_2, .int .i64 a0_3, .int .u64 a0_4, .string a0_5, .string a0_6, .bool a0_7] 32 (0, 0)) (by (with_reducible repeat (first | refine blk_drewN ?_ _ | refine blk_drew ?_ | refine blk_alloc ?_ _)); exact BK214.out) hb); have n1_ := Aside0.mk (below_step (by repeat (first | (with_reducible first | exact HB.out | apply below_alloc | apply pw_below_drewN | apply below_drew1 | refine below_set ?_ GE214.out) | exact HB.out)) hb); have n2_ := Aside0.mk (hbox); have n3_ := Aside0.mk ((by rw [hg]; exact (below_size (by repeat (first | (with_reducible first | exact HB.out | apply below_alloc | apply pw_below_drewN | apply below_drew1 | refine below_set ?_ GE214.out) | exact HB.out))) : w.heap.size ≤ gb215)); have n4_ := Aside0.mk ((by rw [hg]; exact (below_size (by repeat (first | (with_reducible first | exact HB.out | apply below_alloc | apply pw_below_drewN | apply below_drew1 | refine below_set ?_ GE214.out) | exact HB.out))) : w.heap.size ≤ gb215)); have n5_ := Aside0.mk ((by rw [hg]; exact Nat.ne_of_lt (blk_lt (g := gb214) (o := .cells #[.int .i64 a0_0, .int .i64 a0_1, .int .i64 a0_2, .int .i64 a0_3, .int .u64 a0_4, .string a0_5, .string a0_6, .bool a0_7] 32 (0, 0)) (by (with_reducible repeat (first | refine blk_drewN ?_ _ | refine blk_drew ?_ | refine blk_alloc ?_ _)); exact BK214.out)) : gb214 ≠ gb215)); have n6_ := Aside0.mk ((by rw [hg]; exact Nat.ne_of_gt (blk_lt (g := gb214) (o := .cells #[.int .i64 a0_0, .int .i64 a0_1, .int .i64 a0_2, .int .i64 a0_3, .int .u64 a0_4, .string a0_5, .string a0_6, .bool a0_7] 32 (0, 0)) (by (with_reducible repeat (first | refine blk_drewN ?_ _ | refine blk_drew ?_ | refine blk_alloc ?_ _)); exact BK214.out)) : gb215 ≠ gb214)); clear BK214; clear HB; have BK214 := n0_; have HB := n1_; have BK215 := n2_; have GW215 := n3_; have GE215 := n4_; have NB214_215 := n5_; have NB215_214 := n6_; clear n0_ n1_ n2_ n3_ n4_ n5_ n6_; clear hb hbox hg; have hnb7 := NB214_215.out; have hnc7 := NB215_214.out; have hcz8_0 : w6.cell? ⟨gb214, 0, none⟩ = some (.int .i64 a0_0) := (blk_cell BK214.out 0).trans rfl; have hcz8_1 : w6.cell? ⟨gb214, 1, none⟩ = some (.int .i64 a0_1) := (blk_cell BK214.out 1).trans rfl; have hcz8_2 : w6.cell? ⟨gb214, 2, none⟩ = some (.int .i64 a0_2) := (blk_cell BK214.out 2).trans rfl; have hcz8_3 : w6.cell? ⟨gb214, 3, none⟩ = some (.int .i64 a0_3) := (blk_cell BK214.out 3).trans rfl; have hcz8_4 : w6.cell? ⟨gb214, 4, none⟩ = some (.int .u64 a0_4) := (blk_cell BK214.out 4).trans rfl; have hcz8_5 : w6.cell? ⟨gb214, 5, none⟩ = some (.string a0_5) := (blk_cell BK214.out 5).trans rfl; have hcz8_6 : w6.cell? ⟨gb214, 6, none⟩ = some (.string a0_6) := (blk_cell BK214.out 6).trans rfl; have hcz8_7 : w6.cell? ⟨gb214, 7, none⟩ = some (.bool a0_7) := (blk_cell BK214.out 7).trans rfl; have hfz8_0 := blk_frozen BK214.out 0; have hfz8_1 := blk_frozen BK214.out 1; have hfz8_2 := blk_frozen BK214.out 2; have hfz8_3 := blk_frozen BK214.out 3; have hfz8_4 := blk_frozen BK214.out 4; have hfz8_5 := blk_frozen BK214.out 5; have hfz8_6 := blk_frozen BK214.out 6; have hfz8_7 := blk_frozen BK214.out 7) | ((with_reducible refine gate_dst (N := 3) rfl ?_); refine box_event ?hg (N := 3) ?hd (cs := #[.int .i64 0, .int .i64 0, .int .i64 0, .int .i64 0, .int .u64 0, .string (⟨#[]⟩ : ByteArray), .string (⟨#[]⟩ : ByteArray), .bool false]) (t := 32) ?hr ?_; (case hd => rfl); (case hg => rfl); (case hr => first | (go_simp; done) | (go_simp; rfl)); intro gb216 hg w9 hbox hb; have n0_ := Aside0.mk (blk_below (g := gb214) (o := .cells #[.int .i64 a0_0, .int .i64 a0_1, .int .i64 a0_2, .int .i64 a0_3, .int .u64 a0_4, .string a0_5, .string a0_6, .bool a0_7] 32 (0, 0)) (by (with_reducible repeat (first | refine blk_drewN ?_ _ | refine blk_drew ?_ | refine blk_alloc ?_ _)); exact BK214.out) hb); have n1_ := Aside0.mk (blk_below (g := gb215) (o := .cells #[.int .i64 0, .int .i64 0, .int .i64 0, .int .i64 0, .int .u64 0, .string (⟨#[]⟩ : ByteArray), .string (⟨#[]⟩ : ByteArray), .bool false] 32 (0, 0)) (by (with_reducible repeat (first | refine blk_drewN ?_ _ | refine blk_drew ?_ | refine blk_alloc ?_ _)); exact BK215.out) hb); have n2_ := Aside0.mk (below_step (by repeat (first | (with_reducible first | exact HB.out | apply below_alloc | apply pw_below_drewN | apply below_drew1 | refine below_set ?_ GE214.out | refine below_set ?_ GE215.out) | exact HB.out)) hb); have n3_ := Aside0.mk (hbox); have n4_ := Aside0.mk ((by rw [hg]; exact (below_size (by repeat (first | (with_reducible first | exact HB.out | apply below_alloc | apply pw_below_drewN | apply below_drew1 | refine below_set ?_ GE214.out | refine below_set ?_ GE215.out) | exact HB.out))) : w.heap.size ≤ gb216)); have n5_ := Aside0.mk ((by rw [hg]; exact (below_size (by repeat (first | (with_reducible first | exact HB.out | apply below_alloc | apply pw_below_drewN | apply below_drew1 | refine below_set ?_ GE214.out | refine below_set ?_ GE215.out) | exact HB.out))) : w.heap.size ≤ gb216)); have n6_ := Aside0.mk ((by rw [hg]; exact Nat.ne_of_lt (blk_lt (g := gb214) (o := .cells #[.int .i64 a0_0, .int .i64 a0_1, .int .i64 a0_2, .int .i64 a0_3, .int .u64 a0_4, .string a0_5, .string a0_6, .bool a0_7] 32 (0, 0)) (by (with_reducible repeat (first | refine blk_drewN ?_ _ | refine blk_drew ?_ | refine blk_alloc ?_ _)); exact BK214.out)) : gb214 ≠ gb216)); have n7_ := Aside0.mk ((by rw [hg]; exact Nat.ne_of_gt (blk_lt (g := gb214) (o := .cells #[.int .i64 a0_0, .int .i64 a0_1, .int .i64 a0_2, .int .i64 a0_3, .int .u64 a0_4, .string a0_5, .string a0_6, .bool a0_7] 32 (0, 0)) (by (with_reducible repeat (first | refine blk_drewN ?_ _ | refine blk_drew ?_ | refine blk_alloc ?_ _)); exact BK214.out)) : gb216 ≠ gb214)); have n8_ := Aside0.mk ((by rw [hg]; exact Nat.ne_of_lt (blk_lt (g := gb215) (o := .cells #[.int .i64 0, .int .i64 0, .int .i64 0, .int .i64 0, .int .u64 0, .string (⟨#[]⟩ : ByteArray), .string (⟨#[]⟩ : ByteArray), .bool false] 32 (0, 0)) (by (with_reducible repeat (first | refine blk_drewN ?_ _ | refine blk_drew ?_ | refine blk_alloc ?_ _)); exact BK215.out)) : gb215 ≠ gb216)); have n9_ := Aside0.mk ((by rw [hg]; exact Nat.ne_of_gt (blk_lt (g := gb215) (o := .cells #[.int .i64 0, .int .i64 0, .int .i64 0, .int .i64 0, .int .u64 0, .string (⟨#[]⟩ : ByteArray), .string (⟨#[]⟩ : ByteArray), .bool false] 32 (0, 0)) (by (with_reducible repeat (first | refine blk_drewN ?_ _ | refine blk_drew ?_ | refine blk_alloc ?_ _)); exact BK215.out)) : gb216 ≠ gb215)); clear BK214; clear BK215; clear HB; have BK214 := n0_; have BK215 := n1_; have HB := n2_; have BK216 := n3_; have GW216 := n4_; have GE216 := n5_; have NB214_216 := n6_; have NB216_214 := n7_; have NB215_216 := n8_; have NB216_215 := n9_; clear n0_ n1_ n2_ n3_ n4_ n5_ n6_ n7_ n8_ n9_; clear hb hbox hg; have hnb10 := NB216_214.out; have hnc10 := NB214_216.out; have hnb11 := NB216_215.out; have hnc11 := NB215_216.out; have hcz12_0 : w9.cell? ⟨gb216, 0, none⟩ = some (.int .i64 0) := (blk_cell BK216.out 0).trans rfl; have hcz12_1 : w9.cell? ⟨gb216, 1, none⟩ = some (.int .i64 0) := (blk_cell BK216.out 1).trans rfl; have hcz12_2 : w9.cell? ⟨gb216, 2, none⟩ = some (.int .i64 0) := (blk_cell BK216.out 2).trans rfl; have hcz12_3 : w9.cell? ⟨gb216, 3, none⟩ = some (.int .i64 0) := (blk_cell BK216.out 3).trans rfl; have hcz12_4 : w9.cell? ⟨gb216, 4, none⟩ = some (.int .u64 0) := (blk_cell BK216.out 4).trans rfl; have hcz12_5 : w9.cell? ⟨gb216, 5, none⟩ = some (.string (⟨#[]⟩ : ByteArray)) := (blk_cell BK216.out 5).trans rfl; have hcz12_6 : w9.cell? ⟨gb216, 6, none⟩ = some (.string (⟨#[]⟩ : ByteArray)) := (blk_cell BK216.out 6).trans rfl; have hcz12_7 : w9.cell? ⟨gb216, 7, none⟩ = some (.bool false) := (blk_cell BK216.out 7).trans rfl; have hfz12_0 := blk_frozen BK216.out 0; have hfz12_1 := blk_frozen BK216.out 1; have hfz12_2 := blk_frozen BK216.out 2; have hfz12_3 := blk_frozen BK216.out 3; have hfz12_4 := blk_frozen BK216.out 4; have hfz12_5 := blk_frozen BK216.out 5; have hfz12_6 := blk_frozen BK216.out 6; have hfz12_7 := blk_frozen BK216.out 7; have hcz13_0 : w9.cell? ⟨gb214, 0, none⟩ = some (.int .i64 a0_0) := (blk_cell BK214.out 0).trans rfl; have hcz13_1 : w9.cell? ⟨gb214, 1, none⟩ = some (.int .i64 a0_1) := (blk_cell BK214.out 1).trans rfl; have hcz13_2 : w9.cell? ⟨gb214, 2, none⟩ = some (.int .i64 a0_2) := (blk_cell BK214.out 2).trans rfl; have hcz13_3 : w9.cell? ⟨gb214, 3, none⟩ = some (.int .i64 a0_3) := (blk_cell BK214.out 3).trans rfl; have hcz13_4 : w9.cell? ⟨gb214, 4, none⟩ = some (.int .u64 a0_4) := (blk_cell BK214.out 4).trans rfl; have hcz13_5 : w9.cell? ⟨gb214, 5, none⟩ = some (.string a0_5) := (blk_cell BK214.out 5).trans rfl; have hcz13_6 : w9.cell? ⟨gb214, 6, none⟩ = some (.string a0_6) := (blk_cell BK214.out 6).trans rfl; have hcz13_7 : w9.cell? ⟨gb214, 7, none⟩ = some (.bool a0_7) := (blk_cell BK214.out 7).trans rfl; have hfz13_0 := blk_frozen BK214.out 0; have hfz13_1 := blk_frozen BK214.out 1; have hfz13_2 := blk_frozen BK214.out 2; have hfz13_3 := blk_frozen BK214.out 3; have hfz13_4 := blk_frozen BK214.out 4; have hfz13_5 := blk_frozen BK214.out 5; have hfz13_6 := blk_frozen BK214.out 6; have hfz13_7 := blk_frozen BK214.out 7) | ((with_reducible refine gate_callee (f := 37) rfl ?_); refine goesL_ (some 11) rfl rfl Tryd.func37 (by kernel_rfl) rfl #[.int .i64 a0_0] rfl (by (try simp only [List.map_toArray, List.map_cons, List.map_nil]); first | done | rfl | (simp only [List.length_drop, List.length_take]; rfl)) ?_; (with_reducible refine (gharryref25_known.calls a0_0 true _ A2.out).mono ?_); rintro e w' ⟨rfl, ⟨nd, rfl⟩⟩; refine ⟨_, rfl, ?_⟩) | ((with_reducible refine gate_callee (f := 38) rfl ?_); refine goesL_ (some 16) rfl rfl Tryd.func38 (by kernel_rfl) rfl #[.int .i64 a0_0] rfl (by (try simp only [List.map_toArray, List.map_cons, List.map_nil]); first | done | rfl | (simp only [List.length_drop, List.length_take]; rfl)) ?_; (with_reducible refine (gharryref25_args.calls a0_0 t218 _ A4.out).mono ?_); rintro e w14 ⟨rfl, hb⟩; refine ⟨_, rfl, ?_⟩; have n0_ := Aside0.mk (blk_below (g := gb214) (o := .cells #[.int .i64 a0_0, .int .i64 a0_1, .int .i64 a0_2, .int .i64 a0_3, .int .u64 a0_4, .string a0_5, .string a0_6, .bool a0_7] 32 (0, 0)) (by (with_reducible repeat (first | refine blk_drewN ?_ _ | refine blk_drew ?_ | refine blk_alloc ?_ _)); refine blk_far ?_ NB214_216.out _; (with_reducible repeat (first | refine blk_drewN ?_ _ | refine blk_drew ?_ | refine blk_alloc ?_ _)); refine blk_far ?_ NB214_216.out _; (with_reducible repeat (first | refine blk_drewN ?_ _ | refine blk_drew ?_ | refine blk_alloc ?_ _)); refine blk_far ?_ NB214_216.out _; (with_reducible repeat (first | refine blk_drewN ?_ _ | refine blk_drew ?_ | refine blk_alloc ?_ _)); refine blk_far ?_ NB214_216.out _; (with_reducible repeat (first | refine blk_drewN ?_ _ | refine blk_drew ?_ | refine blk_alloc ?_ _)); refine blk_far ?_ NB214_216.out _; (with_reducible repeat (first | refine blk_drewN ?_ _ | refine blk_drew ?_ | refine blk_alloc ?_ _)); refine blk_far ?_ NB214_216.out _; (with_reducible repeat (first | refine blk_drewN ?_ _ | refine blk_drew ?_ | refine blk_alloc ?_ _)); refine blk_far ?_ NB214_216.out _; (with_reducible repeat (first | refine blk_drewN ?_ _ | refine blk_drew ?_ | refine blk_alloc ?_ _)); refine blk_far ?_ NB214_216.out _; (with_reducible repeat (first | refine blk_drewN ?_ _ | refine blk_drew ?_ | refine blk_alloc ?_ _)); exact BK214.out) hb); have n1_ := Aside0.mk (blk_below (g := gb215) (o := .cells #[.int .i64 0, .int .i64 0, .int .i64 0, .int .i64 0, .int .u64 0, .string (⟨#[]⟩ : ByteArray), .string (⟨#[]⟩ : ByteArray), .bool false] 32 (0, 0)) (by (with_reducible repeat (first | refine blk_drewN ?_ _ | refine blk_drew ?_ | refine blk_alloc ?_ _)); refine blk_far ?_ NB215_216.out _; (with_reducible repeat (first | refine blk_drewN ?_ _ | refine blk_drew ?_ | refine blk_alloc ?_ _)); refine blk_far ?_ NB215_216.out _; (with_reducible repeat (first | refine blk_drewN ?_ _ | refine blk_drew ?_ | refine blk_alloc ?_ _)); refine blk_far ?_ NB215_216.out _; (with_reducible repeat (first | refine blk_drewN ?_ _ | refine blk_drew ?_ | refine blk_alloc ?_ _)); refine blk_far ?_ NB215_216.out _; (with_reducible repeat (first | refine blk_drewN ?_ _ | refine blk_drew ?_ | refine blk_alloc ?_ _)); refine blk_far ?_ NB215_216.out _; (with_reducible repeat (first | refine blk_drewN ?_ _ | refine blk_drew ?_ | refine blk_alloc ?_ _)); refine blk_far ?_ NB215_216.out _; (with_reducible repeat (first | refine blk_drewN ?_ _ | refine blk_drew ?_ | refine blk_alloc ?_ _)); refine blk_far ?_ NB215_216.out _; (with_reducible repeat (first | refine blk_drewN ?_ _ | refine blk_drew ?_ | refine blk_alloc ?_ _)); refine blk_far ?_ NB215_216.out _; (with_reducible repeat (first | refine blk_drewN ?_ _ | refine blk_drew ?_ | refine blk_alloc ?_ _)); exact BK215.out) hb); have n2_ := Aside0.mk (blk_below (g := gb216) (o := .cells #[.int .i64 a0_0, .int .i64 0, .int .i64 0, .int .i64 0, .int .u64 0, .string (⟨#[]⟩ : ByteArray), .string (⟨#[]⟩ : ByteArray), .bool false] 32 (0, 0)) (by (with_reducible repeat (first | refine blk_drewN ?_ _ | refine blk_drew ?_ | refine blk_alloc ?_ _)); refine blk_put (cs := #[.int .i64 a0_0, .int .i64 0, .int .i64 0, .int .i64 0, .int .u64 0, .string (⟨#[]⟩ : ByteArray), .string (⟨#[]⟩ : ByteArray), .bool false]) ?_ 7 _ rfl; (with_reducible repeat (first | refine blk_drewN ?_ _ | refine blk_drew ?_ | refine blk_alloc ?_ _)); refine blk_put (cs := #[.int .i64 a0_0, .int .i64 0, .int .i64 0, .int .i64 0, .int .u64 0, .string (⟨#[]⟩ : ByteArray), .string (⟨#[]⟩ : ByteArray), .bool false]) ?_ 6 _ rfl; (with_reducible repeat (first | refine blk_drewN ?_ _ | refine blk_drew ?_ | refine blk_alloc ?_ _)); refine blk_put (cs := #[.int .i64 a0_0, .int .i64 0, .int .i64 0, .int .i64 0, .int .u64 0, .string (⟨#[]⟩ : ByteArray), .string (⟨#[]⟩ : ByteArray), .bool false]) ?_ 5 _ rfl; (with_reducible repeat (first | refine blk_drewN ?_ _ | refine blk_drew ?_ | refine blk_alloc ?_ _)); refine blk_put (cs := #[.int .i64 a0_0, .int .i64 0, .int .i64 0, .int .i64 0, .int .u64 0, .string (⟨#[]⟩ : ByteArray), .string (⟨#[]⟩ : ByteArray), .bool false]) ?_ 4 _ rfl; (with_reducible repeat (first | refine blk_drewN ?_ _ | refine blk_drew ?_ | refine blk_alloc ?_ _)); refine blk_put (cs := #[.int .i64 a0_0, .int .i64 0, .int .i64 0, .int .i64 0, .int .u64 0, .string (⟨#[]⟩ : ByteArray), .string (⟨#[]⟩ : ByteArray), .bool false]) ?_ 3 _ rfl; (with_reducible repeat (first | refine blk_drewN ?_ _ | refine blk_drew ?_ | refine blk_alloc ?_ _)); refine blk_put (cs := #[.int .i64 a0_0, .int .i64 0, .int .i64 0, .int .i64 0, .int .u64 0, .string (⟨#[]⟩ : ByteArray), .string (⟨#[]⟩ : ByteArray), .bool false]) ?_ 2 _ rfl; (with_reducible repeat (first | refine blk_drewN ?_ _ | refine blk_drew ?_ | refine blk_alloc ?_ _)); refine blk_put (cs := #[.int .i64 a0_0, .int .i64 0, .int .i64 0, .int .i64 0, .int .u64 0, .string (⟨#[]⟩ : ByteArray), .string (⟨#[]⟩ : ByteArray), .bool false]) ?_ 1 _ rfl; (with_reducible repeat (first | refine blk_drewN ?_ _ | refine blk_drew ?_ | refine blk_alloc ?_ _)); refine blk_put (cs := #[.int .i64 0, .int .i64 0, .int .i64 0, .int .i64 0, .int .u64 0, .string (⟨#[]⟩ : ByteArray), .string (⟨#[]⟩ : ByteArray), .bool false]) ?_ 0 _ rfl; (with_reducible repeat (first | refine blk_drewN ?_ _ | refine blk_drew ?_ | refine blk_alloc ?_ _)); exact BK216.out) hb); have n3_ := Aside0.mk (below_step (by repeat (first | (with_reducible first | exact HB.out | apply below_alloc | apply pw_below_drewN | apply below_drew1 | refine below_set ?_ GE214.out | refine below_set ?_ GE215.out | refine below_set ?_ GE216.out) | exact HB.out)) hb); clear BK214; clear BK215; clear BK216; clear HB; have BK214 := n0_; have BK215 := n1_; have BK216 := n2_; have HB := n3_; clear n0_ n1_ n2_ n3_; (try clear hb); (try clear hb2); (try clear hk); (try clear hi)))
    go_loopg [5] k (fun kq v5 w' => ∃ (x5_1 : Int) (x217001_1 : Int) (x217002_1 : Int) (x217003_1 : Int) (x217004_1 : Int) (x217005_1 : ByteArray) (x217006_1 : ByteArray) (x217007_1 : Bool), v5 = .int .i64 x5_1 ∧ Aside0 (gharryref25_Clean.l0 kq t218 x5_1 a0_0 a0_1 a0_2 a0_3 a0_4 a0_5 a0_6 a0_7 a0_0 x217001_1 x217002_1 x217003_1 x217004_1 x217005_1 x217006_1 x217007_1 = some (r1, r2, r3, r4, r5, r6, r7, r8)) ∧ Aside0 (kq ≤ k) ∧ Aside0 (w'.heap[gb214]? = some (.cells #[.int .i64 a0_0, .int .i64 a0_1, .int .i64 a0_2, .int .i64 a0_3, .int .u64 a0_4, .string a0_5, .string a0_6, .bool a0_7] 32 (0, 0))) ∧ Aside0 (w'.heap[gb215]? = some (.cells #[.int .i64 0, .int .i64 0, .int .i64 0, .int .i64 0, .int .u64 0, .string (⟨#[]⟩ : ByteArray), .string (⟨#[]⟩ : ByteArray), .bool false] 32 (0, 0))) ∧ Aside0 (w'.heap[gb216]? = some (.cells #[.int .i64 a0_0, .int .i64 x217001_1, .int .i64 x217002_1, .int .i64 x217003_1, .int .u64 x217004_1, .string x217005_1, .string x217006_1, .bool x217007_1] 32 (0, 0))) ∧ Aside0 (Below w.heap.size w w'))
    case atStart => exact ⟨(0), (0), (0), (0), (0), ((⟨#[]⟩ : ByteArray)), ((⟨#[]⟩ : ByteArray)), (false), (by first | rfl | (simp; done) | (simp [*]; done)), H', ⟨Nat.le_refl _⟩, ⟨by (with_reducible repeat (first | refine blk_drewN ?_ _ | refine blk_drew ?_ | refine blk_alloc ?_ _)); exact BK214.out⟩, ⟨by (with_reducible repeat (first | refine blk_drewN ?_ _ | refine blk_drew ?_ | refine blk_alloc ?_ _)); exact BK215.out⟩, ⟨by (with_reducible repeat (first | refine blk_drewN ?_ _ | refine blk_drew ?_ | refine blk_alloc ?_ _)); exact BK216.out⟩, ⟨by repeat (first | (with_reducible first | exact HB.out | apply below_alloc | apply pw_below_drewN | apply below_drew1 | refine below_set ?_ GE214.out | refine below_set ?_ GE215.out | refine below_set ?_ GE216.out) | exact HB.out)⟩⟩
    case round =>
      clear H'
      try clear c1
      try clear c2
      try clear p2
      try clear c3
      try clear c7
      try clear c10
      try clear c11
      try clear hcz12_0
      try clear hcz12_1
      try clear hcz12_2
      try clear hcz12_3
      try clear hcz12_4
      try clear hcz12_5
      try clear hcz12_6
      try clear hcz12_7
      try clear hcz13_0
      try clear hcz13_1
      try clear hcz13_2
      try clear hcz13_3
      try clear hcz13_4
      try clear hcz13_5
      try clear hcz13_6
      try clear hcz13_7
      try clear hcz8_0
      try clear hcz8_1
      try clear hcz8_2
      try clear hcz8_3
      try clear hcz8_4
      try clear hcz8_5
      try clear hcz8_6
      try clear hcz8_7
      try clear hfz12_0
      try clear hfz12_1
      try clear hfz12_2
      try clear hfz12_3
      try clear hfz12_4
      try clear hfz12_5
      try clear hfz12_6
      try clear hfz12_7
      try clear hfz13_0
      try clear hfz13_1
      try clear hfz13_2
      try clear hfz13_3
      try clear hfz13_4
      try clear hfz13_5
      try clear hfz13_6
      try clear hfz13_7
      try clear hfz8_0
      try clear hfz8_1
      try clear hfz8_2
      try clear hfz8_3
      try clear hfz8_4
      try clear hfz8_5
      try clear hfz8_6
      try clear hfz8_7
      obtain ⟨x5_1, x217001_1, x217002_1, x217003_1, x217004_1, x217005_1, x217006_1, x217007_1, rfl, HA, HK1, BK214, BK215, BK216, HB⟩ := hrel
      cases gk with
      | zero => exact absurd HA.out (by simp [gharryref25_Clean.l0])
      | succ k1 =>
        have H := HA.out
        clear HA
        simp only [gharryref25_Clean.l0] at H
        by_cases c15 : x5_1 < (t218.size : Int)
        · rw [if_pos c15] at H
          have c15b0 : decide (x5_1 < (t218.size : Int)) = true := decide_eq_true c15
          clear c15
          by_cases c16 : 0 ≤ x5_1
          · rw [if_pos c16] at H
            have c16b0 : decide (0 ≤ x5_1) = true := decide_eq_true c16
            clear c16
            by_cases c18 : (bt t218 x5_1) = 119
            · rw [if_pos c18] at H
              have c18b0 : ((bt t218 x5_1) == 119) = true := beq_iff_eq.mpr c18
              have c18b1 : ((bt t218 x5_1) != 119) = false := bne_eq_false_iff_eq.mpr c18
              clear c18
              have H' := Aside0.mk H
              clear H
              have p17 : 0 ≤ (x5_1 : Int) := of_decide_eq_true (by first | (with_reducible assumption) | assumption)
              have q17 : x5_1 < (t218.size : Int) := of_decide_eq_true (by first | (with_reducible assumption) | assumption)
              have hx17 := bt_at t218 x5_1
              replace p17 := eq_true p17
              replace q17 := eq_true q17
              have hnb19 := NB214_215.out
              have hnc19 := NB215_214.out
              have hnb20 := NB214_216.out
              have hnc20 := NB216_214.out
              have hcz21_0 : wr.cell? ⟨gb214, 0, none⟩ = some (.int .i64 a0_0) := (blk_cell BK214.out 0).trans rfl
              have hcz21_1 : wr.cell? ⟨gb214, 1, none⟩ = some (.int .i64 a0_1) := (blk_cell BK214.out 1).trans rfl
              have hcz21_2 : wr.cell? ⟨gb214, 2, none⟩ = some (.int .i64 a0_2) := (blk_cell BK214.out 2).trans rfl
              have hcz21_3 : wr.cell? ⟨gb214, 3, none⟩ = some (.int .i64 a0_3) := (blk_cell BK214.out 3).trans rfl
              have hcz21_4 : wr.cell? ⟨gb214, 4, none⟩ = some (.int .u64 a0_4) := (blk_cell BK214.out 4).trans rfl
              have hcz21_5 : wr.cell? ⟨gb214, 5, none⟩ = some (.string a0_5) := (blk_cell BK214.out 5).trans rfl
              have hcz21_6 : wr.cell? ⟨gb214, 6, none⟩ = some (.string a0_6) := (blk_cell BK214.out 6).trans rfl
              have hcz21_7 : wr.cell? ⟨gb214, 7, none⟩ = some (.bool a0_7) := (blk_cell BK214.out 7).trans rfl
              have hfz21_0 := blk_frozen BK214.out 0
              have hfz21_1 := blk_frozen BK214.out 1
              have hfz21_2 := blk_frozen BK214.out 2
              have hfz21_3 := blk_frozen BK214.out 3
              have hfz21_4 := blk_frozen BK214.out 4
              have hfz21_5 := blk_frozen BK214.out 5
              have hfz21_6 := blk_frozen BK214.out 6
              have hfz21_7 := blk_frozen BK214.out 7
              have hnb22 := NB216_215.out
              have hnc22 := NB215_216.out
              have hcz23_0 : wr.cell? ⟨gb216, 0, none⟩ = some (.int .i64 a0_0) := (blk_cell BK216.out 0).trans rfl
              have hcz23_1 : wr.cell? ⟨gb216, 1, none⟩ = some (.int .i64 x217001_1) := (blk_cell BK216.out 1).trans rfl
              have hcz23_2 : wr.cell? ⟨gb216, 2, none⟩ = some (.int .i64 x217002_1) := (blk_cell BK216.out 2).trans rfl
              have hcz23_3 : wr.cell? ⟨gb216, 3, none⟩ = some (.int .i64 x217003_1) := (blk_cell BK216.out 3).trans rfl
              have hcz23_4 : wr.cell? ⟨gb216, 4, none⟩ = some (.int .u64 x217004_1) := (blk_cell BK216.out 4).trans rfl
              have hcz23_5 : wr.cell? ⟨gb216, 5, none⟩ = some (.string x217005_1) := (blk_cell BK216.out 5).trans rfl
              have hcz23_6 : wr.cell? ⟨gb216, 6, none⟩ = some (.string x217006_1) := (blk_cell BK216.out 6).trans rfl
              have hcz23_7 : wr.cell? ⟨gb216, 7, none⟩ = some (.bool x217007_1) := (blk_cell BK216.out 7).trans rfl
              have hfz23_0 := blk_frozen BK216.out 0
              have hfz23_1 := blk_frozen BK216.out 1
              have hfz23_2 := blk_frozen BK216.out 2
              have hfz23_3 := blk_frozen BK216.out 3
              have hfz23_4 := blk_frozen BK216.out 4
              have hfz23_5 := blk_frozen BK216.out 5
              have hfz23_6 := blk_frozen BK216.out 6
              have hfz23_7 := blk_frozen BK216.out 7
              go_wp2
              go_roundg k1
              case measure => have := HK1.out; omega
              case rel => exact ⟨(wrap64 (x5_1 + 1)), (x217001_1), (a0_2), (x217003_1), (x217004_1), (x217005_1), (x217006_1), (x217007_1), (by first | rfl | (simp; done) | (simp [*]; done)), H', ⟨by have := HK1.out; omega⟩, ⟨by (with_reducible repeat (first | refine blk_drewN ?_ _ | refine blk_drew ?_ | refine blk_alloc ?_ _)); refine blk_far ?_ NB214_216.out _; (with_reducible repeat (first | refine blk_drewN ?_ _ | refine blk_drew ?_ | refine blk_alloc ?_ _)); exact BK214.out⟩, ⟨by (with_reducible repeat (first | refine blk_drewN ?_ _ | refine blk_drew ?_ | refine blk_alloc ?_ _)); refine blk_far ?_ NB215_216.out _; (with_reducible repeat (first | refine blk_drewN ?_ _ | refine blk_drew ?_ | refine blk_alloc ?_ _)); exact BK215.out⟩, ⟨by (with_reducible repeat (first | refine blk_drewN ?_ _ | refine blk_drew ?_ | refine blk_alloc ?_ _)); refine blk_put (cs := #[.int .i64 a0_0, .int .i64 x217001_1, .int .i64 x217002_1, .int .i64 x217003_1, .int .u64 x217004_1, .string x217005_1, .string x217006_1, .bool x217007_1]) ?_ 2 _ rfl; (with_reducible repeat (first | refine blk_drewN ?_ _ | refine blk_drew ?_ | refine blk_alloc ?_ _)); exact BK216.out⟩, ⟨by repeat (first | (with_reducible first | exact HB.out | apply below_alloc | apply pw_below_drewN | apply below_drew1 | refine below_set ?_ GE214.out | refine below_set ?_ GE215.out | refine below_set ?_ GE216.out) | exact HB.out)⟩⟩
            · rw [if_neg c18] at H
              have c18b0 : ((bt t218 x5_1) == 119) = false := beq_eq_false_iff_ne.mpr c18
              have c18b1 : ((bt t218 x5_1) != 119) = true := bne_iff_ne.mpr c18
              by_cases c24 : (bt t218 x5_1) = 110
              · rw [if_pos c24] at H
                have c24b0 : ((bt t218 x5_1) == 110) = true := beq_iff_eq.mpr c24
                have c24b1 : ((bt t218 x5_1) != 110) = false := bne_eq_false_iff_eq.mpr c24
                clear c24
                have H' := Aside0.mk H
                clear H
                have p17 : 0 ≤ (x5_1 : Int) := of_decide_eq_true (by first | (with_reducible assumption) | assumption)
                have q17 : x5_1 < (t218.size : Int) := of_decide_eq_true (by first | (with_reducible assumption) | assumption)
                have hx17 := bt_at t218 x5_1
                replace p17 := eq_true p17
                replace q17 := eq_true q17
                have hnb25 := NB214_215.out
                have hnc25 := NB215_214.out
                have hnb26 := NB214_216.out
                have hnc26 := NB216_214.out
                have hcz27_0 : wr.cell? ⟨gb214, 0, none⟩ = some (.int .i64 a0_0) := (blk_cell BK214.out 0).trans rfl
                have hcz27_1 : wr.cell? ⟨gb214, 1, none⟩ = some (.int .i64 a0_1) := (blk_cell BK214.out 1).trans rfl
                have hcz27_2 : wr.cell? ⟨gb214, 2, none⟩ = some (.int .i64 a0_2) := (blk_cell BK214.out 2).trans rfl
                have hcz27_3 : wr.cell? ⟨gb214, 3, none⟩ = some (.int .i64 a0_3) := (blk_cell BK214.out 3).trans rfl
                have hcz27_4 : wr.cell? ⟨gb214, 4, none⟩ = some (.int .u64 a0_4) := (blk_cell BK214.out 4).trans rfl
                have hcz27_5 : wr.cell? ⟨gb214, 5, none⟩ = some (.string a0_5) := (blk_cell BK214.out 5).trans rfl
                have hcz27_6 : wr.cell? ⟨gb214, 6, none⟩ = some (.string a0_6) := (blk_cell BK214.out 6).trans rfl
                have hcz27_7 : wr.cell? ⟨gb214, 7, none⟩ = some (.bool a0_7) := (blk_cell BK214.out 7).trans rfl
                have hfz27_0 := blk_frozen BK214.out 0
                have hfz27_1 := blk_frozen BK214.out 1
                have hfz27_2 := blk_frozen BK214.out 2
                have hfz27_3 := blk_frozen BK214.out 3
                have hfz27_4 := blk_frozen BK214.out 4
                have hfz27_5 := blk_frozen BK214.out 5
                have hfz27_6 := blk_frozen BK214.out 6
                have hfz27_7 := blk_frozen BK214.out 7
                have hnb28 := NB216_215.out
                have hnc28 := NB215_216.out
                have hcz29_0 : wr.cell? ⟨gb216, 0, none⟩ = some (.int .i64 a0_0) := (blk_cell BK216.out 0).trans rfl
                have hcz29_1 : wr.cell? ⟨gb216, 1, none⟩ = some (.int .i64 x217001_1) := (blk_cell BK216.out 1).trans rfl
                have hcz29_2 : wr.cell? ⟨gb216, 2, none⟩ = some (.int .i64 x217002_1) := (blk_cell BK216.out 2).trans rfl
                have hcz29_3 : wr.cell? ⟨gb216, 3, none⟩ = some (.int .i64 x217003_1) := (blk_cell BK216.out 3).trans rfl
                have hcz29_4 : wr.cell? ⟨gb216, 4, none⟩ = some (.int .u64 x217004_1) := (blk_cell BK216.out 4).trans rfl
                have hcz29_5 : wr.cell? ⟨gb216, 5, none⟩ = some (.string x217005_1) := (blk_cell BK216.out 5).trans rfl
                have hcz29_6 : wr.cell? ⟨gb216, 6, none⟩ = some (.string x217006_1) := (blk_cell BK216.out 6).trans rfl
                have hcz29_7 : wr.cell? ⟨gb216, 7, none⟩ = some (.bool x217007_1) := (blk_cell BK216.out 7).trans rfl
                have hfz29_0 := blk_frozen BK216.out 0
                have hfz29_1 := blk_frozen BK216.out 1
                have hfz29_2 := blk_frozen BK216.out 2
                have hfz29_3 := blk_frozen BK216.out 3
                have hfz29_4 := blk_frozen BK216.out 4
                have hfz29_5 := blk_frozen BK216.out 5
                have hfz29_6 := blk_frozen BK216.out 6
                have hfz29_7 := blk_frozen BK216.out 7
                go_wp2
                go_roundg k1
                case measure => have := HK1.out; omega
                case rel => exact ⟨(wrap64 (x5_1 + 1)), (a0_1), (x217002_1), (x217003_1), (x217004_1), (x217005_1), (x217006_1), (x217007_1), (by first | rfl | (simp; done) | (simp [*]; done)), H', ⟨by have := HK1.out; omega⟩, ⟨by (with_reducible repeat (first | refine blk_drewN ?_ _ | refine blk_drew ?_ | refine blk_alloc ?_ _)); refine blk_far ?_ NB214_216.out _; (with_reducible repeat (first | refine blk_drewN ?_ _ | refine blk_drew ?_ | refine blk_alloc ?_ _)); exact BK214.out⟩, ⟨by (with_reducible repeat (first | refine blk_drewN ?_ _ | refine blk_drew ?_ | refine blk_alloc ?_ _)); refine blk_far ?_ NB215_216.out _; (with_reducible repeat (first | refine blk_drewN ?_ _ | refine blk_drew ?_ | refine blk_alloc ?_ _)); exact BK215.out⟩, ⟨by (with_reducible repeat (first | refine blk_drewN ?_ _ | refine blk_drew ?_ | refine blk_alloc ?_ _)); refine blk_put (cs := #[.int .i64 a0_0, .int .i64 x217001_1, .int .i64 x217002_1, .int .i64 x217003_1, .int .u64 x217004_1, .string x217005_1, .string x217006_1, .bool x217007_1]) ?_ 1 _ rfl; (with_reducible repeat (first | refine blk_drewN ?_ _ | refine blk_drew ?_ | refine blk_alloc ?_ _)); exact BK216.out⟩, ⟨by repeat (first | (with_reducible first | exact HB.out | apply below_alloc | apply pw_below_drewN | apply below_drew1 | refine below_set ?_ GE214.out | refine below_set ?_ GE215.out | refine below_set ?_ GE216.out) | exact HB.out)⟩⟩
              · rw [if_neg c24] at H
                have c24b0 : ((bt t218 x5_1) == 110) = false := beq_eq_false_iff_ne.mpr c24
                have c24b1 : ((bt t218 x5_1) != 110) = true := bne_iff_ne.mpr c24
                by_cases c30 : (bt t218 x5_1) = 107
                · rw [if_pos c30] at H
                  have c30b0 : ((bt t218 x5_1) == 107) = true := beq_iff_eq.mpr c30
                  have c30b1 : ((bt t218 x5_1) != 107) = false := bne_eq_false_iff_eq.mpr c30
                  clear c30
                  have H' := Aside0.mk H
                  clear H
                  have p17 : 0 ≤ (x5_1 : Int) := of_decide_eq_true (by first | (with_reducible assumption) | assumption)
                  have q17 : x5_1 < (t218.size : Int) := of_decide_eq_true (by first | (with_reducible assumption) | assumption)
                  have hx17 := bt_at t218 x5_1
                  replace p17 := eq_true p17
                  replace q17 := eq_true q17
                  have hnb31 := NB214_215.out
                  have hnc31 := NB215_214.out
                  have hnb32 := NB214_216.out
                  have hnc32 := NB216_214.out
                  have hcz33_0 : wr.cell? ⟨gb214, 0, none⟩ = some (.int .i64 a0_0) := (blk_cell BK214.out 0).trans rfl
                  have hcz33_1 : wr.cell? ⟨gb214, 1, none⟩ = some (.int .i64 a0_1) := (blk_cell BK214.out 1).trans rfl
                  have hcz33_2 : wr.cell? ⟨gb214, 2, none⟩ = some (.int .i64 a0_2) := (blk_cell BK214.out 2).trans rfl
                  have hcz33_3 : wr.cell? ⟨gb214, 3, none⟩ = some (.int .i64 a0_3) := (blk_cell BK214.out 3).trans rfl
                  have hcz33_4 : wr.cell? ⟨gb214, 4, none⟩ = some (.int .u64 a0_4) := (blk_cell BK214.out 4).trans rfl
                  have hcz33_5 : wr.cell? ⟨gb214, 5, none⟩ = some (.string a0_5) := (blk_cell BK214.out 5).trans rfl
                  have hcz33_6 : wr.cell? ⟨gb214, 6, none⟩ = some (.string a0_6) := (blk_cell BK214.out 6).trans rfl
                  have hcz33_7 : wr.cell? ⟨gb214, 7, none⟩ = some (.bool a0_7) := (blk_cell BK214.out 7).trans rfl
                  have hfz33_0 := blk_frozen BK214.out 0
                  have hfz33_1 := blk_frozen BK214.out 1
                  have hfz33_2 := blk_frozen BK214.out 2
                  have hfz33_3 := blk_frozen BK214.out 3
                  have hfz33_4 := blk_frozen BK214.out 4
                  have hfz33_5 := blk_frozen BK214.out 5
                  have hfz33_6 := blk_frozen BK214.out 6
                  have hfz33_7 := blk_frozen BK214.out 7
                  have hnb34 := NB216_215.out
                  have hnc34 := NB215_216.out
                  have hcz35_0 : wr.cell? ⟨gb216, 0, none⟩ = some (.int .i64 a0_0) := (blk_cell BK216.out 0).trans rfl
                  have hcz35_1 : wr.cell? ⟨gb216, 1, none⟩ = some (.int .i64 x217001_1) := (blk_cell BK216.out 1).trans rfl
                  have hcz35_2 : wr.cell? ⟨gb216, 2, none⟩ = some (.int .i64 x217002_1) := (blk_cell BK216.out 2).trans rfl
                  have hcz35_3 : wr.cell? ⟨gb216, 3, none⟩ = some (.int .i64 x217003_1) := (blk_cell BK216.out 3).trans rfl
                  have hcz35_4 : wr.cell? ⟨gb216, 4, none⟩ = some (.int .u64 x217004_1) := (blk_cell BK216.out 4).trans rfl
                  have hcz35_5 : wr.cell? ⟨gb216, 5, none⟩ = some (.string x217005_1) := (blk_cell BK216.out 5).trans rfl
                  have hcz35_6 : wr.cell? ⟨gb216, 6, none⟩ = some (.string x217006_1) := (blk_cell BK216.out 6).trans rfl
                  have hcz35_7 : wr.cell? ⟨gb216, 7, none⟩ = some (.bool x217007_1) := (blk_cell BK216.out 7).trans rfl
                  have hfz35_0 := blk_frozen BK216.out 0
                  have hfz35_1 := blk_frozen BK216.out 1
                  have hfz35_2 := blk_frozen BK216.out 2
                  have hfz35_3 := blk_frozen BK216.out 3
                  have hfz35_4 := blk_frozen BK216.out 4
                  have hfz35_5 := blk_frozen BK216.out 5
                  have hfz35_6 := blk_frozen BK216.out 6
                  have hfz35_7 := blk_frozen BK216.out 7
                  go_wp2
                  go_roundg k1
                  case measure => have := HK1.out; omega
                  case rel => exact ⟨(wrap64 (x5_1 + 1)), (x217001_1), (x217002_1), (x217003_1), (x217004_1), (a0_5), (x217006_1), (x217007_1), (by first | rfl | (simp; done) | (simp [*]; done)), H', ⟨by have := HK1.out; omega⟩, ⟨by (with_reducible repeat (first | refine blk_drewN ?_ _ | refine blk_drew ?_ | refine blk_alloc ?_ _)); refine blk_far ?_ NB214_216.out _; (with_reducible repeat (first | refine blk_drewN ?_ _ | refine blk_drew ?_ | refine blk_alloc ?_ _)); exact BK214.out⟩, ⟨by (with_reducible repeat (first | refine blk_drewN ?_ _ | refine blk_drew ?_ | refine blk_alloc ?_ _)); refine blk_far ?_ NB215_216.out _; (with_reducible repeat (first | refine blk_drewN ?_ _ | refine blk_drew ?_ | refine blk_alloc ?_ _)); exact BK215.out⟩, ⟨by (with_reducible repeat (first | refine blk_drewN ?_ _ | refine blk_drew ?_ | refine blk_alloc ?_ _)); refine blk_put (cs := #[.int .i64 a0_0, .int .i64 x217001_1, .int .i64 x217002_1, .int .i64 x217003_1, .int .u64 x217004_1, .string x217005_1, .string x217006_1, .bool x217007_1]) ?_ 5 _ rfl; (with_reducible repeat (first | refine blk_drewN ?_ _ | refine blk_drew ?_ | refine blk_alloc ?_ _)); exact BK216.out⟩, ⟨by repeat (first | (with_reducible first | exact HB.out | apply below_alloc | apply pw_below_drewN | apply below_drew1 | refine below_set ?_ GE214.out | refine below_set ?_ GE215.out | refine below_set ?_ GE216.out) | exact HB.out)⟩⟩
                · rw [if_neg c30] at H
                  have c30b0 : ((bt t218 x5_1) == 107) = false := beq_eq_false_iff_ne.mpr c30
                  have c30b1 : ((bt t218 x5_1) != 107) = true := bne_iff_ne.mpr c30
                  by_cases c36 : (bt t218 x5_1) = 118
                  · rw [if_pos c36] at H
                    have c36b0 : ((bt t218 x5_1) == 118) = true := beq_iff_eq.mpr c36
                    have c36b1 : ((bt t218 x5_1) != 118) = false := bne_eq_false_iff_eq.mpr c36
                    clear c36
                    have H' := Aside0.mk H
                    clear H
                    have p17 : 0 ≤ (x5_1 : Int) := of_decide_eq_true (by first | (with_reducible assumption) | assumption)
                    have q17 : x5_1 < (t218.size : Int) := of_decide_eq_true (by first | (with_reducible assumption) | assumption)
                    have hx17 := bt_at t218 x5_1
                    replace p17 := eq_true p17
                    replace q17 := eq_true q17
                    have hnb37 := NB214_215.out
                    have hnc37 := NB215_214.out
                    have hnb38 := NB214_216.out
                    have hnc38 := NB216_214.out
                    have hcz39_0 : wr.cell? ⟨gb214, 0, none⟩ = some (.int .i64 a0_0) := (blk_cell BK214.out 0).trans rfl
                    have hcz39_1 : wr.cell? ⟨gb214, 1, none⟩ = some (.int .i64 a0_1) := (blk_cell BK214.out 1).trans rfl
                    have hcz39_2 : wr.cell? ⟨gb214, 2, none⟩ = some (.int .i64 a0_2) := (blk_cell BK214.out 2).trans rfl
                    have hcz39_3 : wr.cell? ⟨gb214, 3, none⟩ = some (.int .i64 a0_3) := (blk_cell BK214.out 3).trans rfl
                    have hcz39_4 : wr.cell? ⟨gb214, 4, none⟩ = some (.int .u64 a0_4) := (blk_cell BK214.out 4).trans rfl
                    have hcz39_5 : wr.cell? ⟨gb214, 5, none⟩ = some (.string a0_5) := (blk_cell BK214.out 5).trans rfl
                    have hcz39_6 : wr.cell? ⟨gb214, 6, none⟩ = some (.string a0_6) := (blk_cell BK214.out 6).trans rfl
                    have hcz39_7 : wr.cell? ⟨gb214, 7, none⟩ = some (.bool a0_7) := (blk_cell BK214.out 7).trans rfl
                    have hfz39_0 := blk_frozen BK214.out 0
                    have hfz39_1 := blk_frozen BK214.out 1
                    have hfz39_2 := blk_frozen BK214.out 2
                    have hfz39_3 := blk_frozen BK214.out 3
                    have hfz39_4 := blk_frozen BK214.out 4
                    have hfz39_5 := blk_frozen BK214.out 5
                    have hfz39_6 := blk_frozen BK214.out 6
                    have hfz39_7 := blk_frozen BK214.out 7
                    have hnb40 := NB216_215.out
                    have hnc40 := NB215_216.out
                    have hcz41_0 : wr.cell? ⟨gb216, 0, none⟩ = some (.int .i64 a0_0) := (blk_cell BK216.out 0).trans rfl
                    have hcz41_1 : wr.cell? ⟨gb216, 1, none⟩ = some (.int .i64 x217001_1) := (blk_cell BK216.out 1).trans rfl
                    have hcz41_2 : wr.cell? ⟨gb216, 2, none⟩ = some (.int .i64 x217002_1) := (blk_cell BK216.out 2).trans rfl
                    have hcz41_3 : wr.cell? ⟨gb216, 3, none⟩ = some (.int .i64 x217003_1) := (blk_cell BK216.out 3).trans rfl
                    have hcz41_4 : wr.cell? ⟨gb216, 4, none⟩ = some (.int .u64 x217004_1) := (blk_cell BK216.out 4).trans rfl
                    have hcz41_5 : wr.cell? ⟨gb216, 5, none⟩ = some (.string x217005_1) := (blk_cell BK216.out 5).trans rfl
                    have hcz41_6 : wr.cell? ⟨gb216, 6, none⟩ = some (.string x217006_1) := (blk_cell BK216.out 6).trans rfl
                    have hcz41_7 : wr.cell? ⟨gb216, 7, none⟩ = some (.bool x217007_1) := (blk_cell BK216.out 7).trans rfl
                    have hfz41_0 := blk_frozen BK216.out 0
                    have hfz41_1 := blk_frozen BK216.out 1
                    have hfz41_2 := blk_frozen BK216.out 2
                    have hfz41_3 := blk_frozen BK216.out 3
                    have hfz41_4 := blk_frozen BK216.out 4
                    have hfz41_5 := blk_frozen BK216.out 5
                    have hfz41_6 := blk_frozen BK216.out 6
                    have hfz41_7 := blk_frozen BK216.out 7
                    go_wp2
                    go_roundg k1
                    case measure => have := HK1.out; omega
                    case rel => exact ⟨(wrap64 (x5_1 + 1)), (x217001_1), (x217002_1), (x217003_1), (x217004_1), (x217005_1), (a0_6), (x217007_1), (by first | rfl | (simp; done) | (simp [*]; done)), H', ⟨by have := HK1.out; omega⟩, ⟨by (with_reducible repeat (first | refine blk_drewN ?_ _ | refine blk_drew ?_ | refine blk_alloc ?_ _)); refine blk_far ?_ NB214_216.out _; (with_reducible repeat (first | refine blk_drewN ?_ _ | refine blk_drew ?_ | refine blk_alloc ?_ _)); exact BK214.out⟩, ⟨by (with_reducible repeat (first | refine blk_drewN ?_ _ | refine blk_drew ?_ | refine blk_alloc ?_ _)); refine blk_far ?_ NB215_216.out _; (with_reducible repeat (first | refine blk_drewN ?_ _ | refine blk_drew ?_ | refine blk_alloc ?_ _)); exact BK215.out⟩, ⟨by (with_reducible repeat (first | refine blk_drewN ?_ _ | refine blk_drew ?_ | refine blk_alloc ?_ _)); refine blk_put (cs := #[.int .i64 a0_0, .int .i64 x217001_1, .int .i64 x217002_1, .int .i64 x217003_1, .int .u64 x217004_1, .string x217005_1, .string x217006_1, .bool x217007_1]) ?_ 6 _ rfl; (with_reducible repeat (first | refine blk_drewN ?_ _ | refine blk_drew ?_ | refine blk_alloc ?_ _)); exact BK216.out⟩, ⟨by repeat (first | (with_reducible first | exact HB.out | apply below_alloc | apply pw_below_drewN | apply below_drew1 | refine below_set ?_ GE214.out | refine below_set ?_ GE215.out | refine below_set ?_ GE216.out) | exact HB.out)⟩⟩
                  · rw [if_neg c36] at H
                    have c36b0 : ((bt t218 x5_1) == 118) = false := beq_eq_false_iff_ne.mpr c36
                    have c36b1 : ((bt t218 x5_1) != 118) = true := bne_iff_ne.mpr c36
                    by_cases c42 : (bt t218 x5_1) = 99
                    · rw [if_pos c42] at H
                      have c42b0 : ((bt t218 x5_1) == 99) = true := beq_iff_eq.mpr c42
                      have c42b1 : ((bt t218 x5_1) != 99) = false := bne_eq_false_iff_eq.mpr c42
                      clear c42
                      have H' := Aside0.mk H
                      clear H
                      have p17 : 0 ≤ (x5_1 : Int) := of_decide_eq_true (by first | (with_reducible assumption) | assumption)
                      have q17 : x5_1 < (t218.size : Int) := of_decide_eq_true (by first | (with_reducible assumption) | assumption)
                      have hx17 := bt_at t218 x5_1
                      replace p17 := eq_true p17
                      replace q17 := eq_true q17
                      have hnb43 := NB214_215.out
                      have hnc43 := NB215_214.out
                      have hnb44 := NB214_216.out
                      have hnc44 := NB216_214.out
                      have hcz45_0 : wr.cell? ⟨gb214, 0, none⟩ = some (.int .i64 a0_0) := (blk_cell BK214.out 0).trans rfl
                      have hcz45_1 : wr.cell? ⟨gb214, 1, none⟩ = some (.int .i64 a0_1) := (blk_cell BK214.out 1).trans rfl
                      have hcz45_2 : wr.cell? ⟨gb214, 2, none⟩ = some (.int .i64 a0_2) := (blk_cell BK214.out 2).trans rfl
                      have hcz45_3 : wr.cell? ⟨gb214, 3, none⟩ = some (.int .i64 a0_3) := (blk_cell BK214.out 3).trans rfl
                      have hcz45_4 : wr.cell? ⟨gb214, 4, none⟩ = some (.int .u64 a0_4) := (blk_cell BK214.out 4).trans rfl
                      have hcz45_5 : wr.cell? ⟨gb214, 5, none⟩ = some (.string a0_5) := (blk_cell BK214.out 5).trans rfl
                      have hcz45_6 : wr.cell? ⟨gb214, 6, none⟩ = some (.string a0_6) := (blk_cell BK214.out 6).trans rfl
                      have hcz45_7 : wr.cell? ⟨gb214, 7, none⟩ = some (.bool a0_7) := (blk_cell BK214.out 7).trans rfl
                      have hfz45_0 := blk_frozen BK214.out 0
                      have hfz45_1 := blk_frozen BK214.out 1
                      have hfz45_2 := blk_frozen BK214.out 2
                      have hfz45_3 := blk_frozen BK214.out 3
                      have hfz45_4 := blk_frozen BK214.out 4
                      have hfz45_5 := blk_frozen BK214.out 5
                      have hfz45_6 := blk_frozen BK214.out 6
                      have hfz45_7 := blk_frozen BK214.out 7
                      have hnb46 := NB216_215.out
                      have hnc46 := NB215_216.out
                      have hcz47_0 : wr.cell? ⟨gb216, 0, none⟩ = some (.int .i64 a0_0) := (blk_cell BK216.out 0).trans rfl
                      have hcz47_1 : wr.cell? ⟨gb216, 1, none⟩ = some (.int .i64 x217001_1) := (blk_cell BK216.out 1).trans rfl
                      have hcz47_2 : wr.cell? ⟨gb216, 2, none⟩ = some (.int .i64 x217002_1) := (blk_cell BK216.out 2).trans rfl
                      have hcz47_3 : wr.cell? ⟨gb216, 3, none⟩ = some (.int .i64 x217003_1) := (blk_cell BK216.out 3).trans rfl
                      have hcz47_4 : wr.cell? ⟨gb216, 4, none⟩ = some (.int .u64 x217004_1) := (blk_cell BK216.out 4).trans rfl
                      have hcz47_5 : wr.cell? ⟨gb216, 5, none⟩ = some (.string x217005_1) := (blk_cell BK216.out 5).trans rfl
                      have hcz47_6 : wr.cell? ⟨gb216, 6, none⟩ = some (.string x217006_1) := (blk_cell BK216.out 6).trans rfl
                      have hcz47_7 : wr.cell? ⟨gb216, 7, none⟩ = some (.bool x217007_1) := (blk_cell BK216.out 7).trans rfl
                      have hfz47_0 := blk_frozen BK216.out 0
                      have hfz47_1 := blk_frozen BK216.out 1
                      have hfz47_2 := blk_frozen BK216.out 2
                      have hfz47_3 := blk_frozen BK216.out 3
                      have hfz47_4 := blk_frozen BK216.out 4
                      have hfz47_5 := blk_frozen BK216.out 5
                      have hfz47_6 := blk_frozen BK216.out 6
                      have hfz47_7 := blk_frozen BK216.out 7
                      go_wp2
                      go_roundg k1
                      case measure => have := HK1.out; omega
                      case rel => exact ⟨(wrap64 (x5_1 + 1)), (x217001_1), (x217002_1), (a0_3), (x217004_1), (x217005_1), (x217006_1), (x217007_1), (by first | rfl | (simp; done) | (simp [*]; done)), H', ⟨by have := HK1.out; omega⟩, ⟨by (with_reducible repeat (first | refine blk_drewN ?_ _ | refine blk_drew ?_ | refine blk_alloc ?_ _)); refine blk_far ?_ NB214_216.out _; (with_reducible repeat (first | refine blk_drewN ?_ _ | refine blk_drew ?_ | refine blk_alloc ?_ _)); exact BK214.out⟩, ⟨by (with_reducible repeat (first | refine blk_drewN ?_ _ | refine blk_drew ?_ | refine blk_alloc ?_ _)); refine blk_far ?_ NB215_216.out _; (with_reducible repeat (first | refine blk_drewN ?_ _ | refine blk_drew ?_ | refine blk_alloc ?_ _)); exact BK215.out⟩, ⟨by (with_reducible repeat (first | refine blk_drewN ?_ _ | refine blk_drew ?_ | refine blk_alloc ?_ _)); refine blk_put (cs := #[.int .i64 a0_0, .int .i64 x217001_1, .int .i64 x217002_1, .int .i64 x217003_1, .int .u64 x217004_1, .string x217005_1, .string x217006_1, .bool x217007_1]) ?_ 3 _ rfl; (with_reducible repeat (first | refine blk_drewN ?_ _ | refine blk_drew ?_ | refine blk_alloc ?_ _)); exact BK216.out⟩, ⟨by repeat (first | (with_reducible first | exact HB.out | apply below_alloc | apply pw_below_drewN | apply below_drew1 | refine below_set ?_ GE214.out | refine below_set ?_ GE215.out | refine below_set ?_ GE216.out) | exact HB.out)⟩⟩
                    · rw [if_neg c42] at H
                      have c42b0 : ((bt t218 x5_1) == 99) = false := beq_eq_false_iff_ne.mpr c42
                      have c42b1 : ((bt t218 x5_1) != 99) = true := bne_iff_ne.mpr c42
                      by_cases c48 : (bt t218 x5_1) = 109
                      · rw [if_pos c48] at H
                        have c48b0 : ((bt t218 x5_1) == 109) = true := beq_iff_eq.mpr c48
                        have c48b1 : ((bt t218 x5_1) != 109) = false := bne_eq_false_iff_eq.mpr c48
                        clear c48
                        have H' := Aside0.mk H
                        clear H
                        have p17 : 0 ≤ (x5_1 : Int) := of_decide_eq_true (by first | (with_reducible assumption) | assumption)
                        have q17 : x5_1 < (t218.size : Int) := of_decide_eq_true (by first | (with_reducible assumption) | assumption)
                        have hx17 := bt_at t218 x5_1
                        replace p17 := eq_true p17
                        replace q17 := eq_true q17
                        have hnb49 := NB214_215.out
                        have hnc49 := NB215_214.out
                        have hnb50 := NB214_216.out
                        have hnc50 := NB216_214.out
                        have hcz51_0 : wr.cell? ⟨gb214, 0, none⟩ = some (.int .i64 a0_0) := (blk_cell BK214.out 0).trans rfl
                        have hcz51_1 : wr.cell? ⟨gb214, 1, none⟩ = some (.int .i64 a0_1) := (blk_cell BK214.out 1).trans rfl
                        have hcz51_2 : wr.cell? ⟨gb214, 2, none⟩ = some (.int .i64 a0_2) := (blk_cell BK214.out 2).trans rfl
                        have hcz51_3 : wr.cell? ⟨gb214, 3, none⟩ = some (.int .i64 a0_3) := (blk_cell BK214.out 3).trans rfl
                        have hcz51_4 : wr.cell? ⟨gb214, 4, none⟩ = some (.int .u64 a0_4) := (blk_cell BK214.out 4).trans rfl
                        have hcz51_5 : wr.cell? ⟨gb214, 5, none⟩ = some (.string a0_5) := (blk_cell BK214.out 5).trans rfl
                        have hcz51_6 : wr.cell? ⟨gb214, 6, none⟩ = some (.string a0_6) := (blk_cell BK214.out 6).trans rfl
                        have hcz51_7 : wr.cell? ⟨gb214, 7, none⟩ = some (.bool a0_7) := (blk_cell BK214.out 7).trans rfl
                        have hfz51_0 := blk_frozen BK214.out 0
                        have hfz51_1 := blk_frozen BK214.out 1
                        have hfz51_2 := blk_frozen BK214.out 2
                        have hfz51_3 := blk_frozen BK214.out 3
                        have hfz51_4 := blk_frozen BK214.out 4
                        have hfz51_5 := blk_frozen BK214.out 5
                        have hfz51_6 := blk_frozen BK214.out 6
                        have hfz51_7 := blk_frozen BK214.out 7
                        have hnb52 := NB216_215.out
                        have hnc52 := NB215_216.out
                        have hcz53_0 : wr.cell? ⟨gb216, 0, none⟩ = some (.int .i64 a0_0) := (blk_cell BK216.out 0).trans rfl
                        have hcz53_1 : wr.cell? ⟨gb216, 1, none⟩ = some (.int .i64 x217001_1) := (blk_cell BK216.out 1).trans rfl
                        have hcz53_2 : wr.cell? ⟨gb216, 2, none⟩ = some (.int .i64 x217002_1) := (blk_cell BK216.out 2).trans rfl
                        have hcz53_3 : wr.cell? ⟨gb216, 3, none⟩ = some (.int .i64 x217003_1) := (blk_cell BK216.out 3).trans rfl
                        have hcz53_4 : wr.cell? ⟨gb216, 4, none⟩ = some (.int .u64 x217004_1) := (blk_cell BK216.out 4).trans rfl
                        have hcz53_5 : wr.cell? ⟨gb216, 5, none⟩ = some (.string x217005_1) := (blk_cell BK216.out 5).trans rfl
                        have hcz53_6 : wr.cell? ⟨gb216, 6, none⟩ = some (.string x217006_1) := (blk_cell BK216.out 6).trans rfl
                        have hcz53_7 : wr.cell? ⟨gb216, 7, none⟩ = some (.bool x217007_1) := (blk_cell BK216.out 7).trans rfl
                        have hfz53_0 := blk_frozen BK216.out 0
                        have hfz53_1 := blk_frozen BK216.out 1
                        have hfz53_2 := blk_frozen BK216.out 2
                        have hfz53_3 := blk_frozen BK216.out 3
                        have hfz53_4 := blk_frozen BK216.out 4
                        have hfz53_5 := blk_frozen BK216.out 5
                        have hfz53_6 := blk_frozen BK216.out 6
                        have hfz53_7 := blk_frozen BK216.out 7
                        go_wp2
                        go_roundg k1
                        case measure => have := HK1.out; omega
                        case rel => exact ⟨(wrap64 (x5_1 + 1)), (x217001_1), (x217002_1), (x217003_1), (a0_4), (x217005_1), (x217006_1), (x217007_1), (by first | rfl | (simp; done) | (simp [*]; done)), H', ⟨by have := HK1.out; omega⟩, ⟨by (with_reducible repeat (first | refine blk_drewN ?_ _ | refine blk_drew ?_ | refine blk_alloc ?_ _)); refine blk_far ?_ NB214_216.out _; (with_reducible repeat (first | refine blk_drewN ?_ _ | refine blk_drew ?_ | refine blk_alloc ?_ _)); exact BK214.out⟩, ⟨by (with_reducible repeat (first | refine blk_drewN ?_ _ | refine blk_drew ?_ | refine blk_alloc ?_ _)); refine blk_far ?_ NB215_216.out _; (with_reducible repeat (first | refine blk_drewN ?_ _ | refine blk_drew ?_ | refine blk_alloc ?_ _)); exact BK215.out⟩, ⟨by (with_reducible repeat (first | refine blk_drewN ?_ _ | refine blk_drew ?_ | refine blk_alloc ?_ _)); refine blk_put (cs := #[.int .i64 a0_0, .int .i64 x217001_1, .int .i64 x217002_1, .int .i64 x217003_1, .int .u64 x217004_1, .string x217005_1, .string x217006_1, .bool x217007_1]) ?_ 4 _ rfl; (with_reducible repeat (first | refine blk_drewN ?_ _ | refine blk_drew ?_ | refine blk_alloc ?_ _)); exact BK216.out⟩, ⟨by repeat (first | (with_reducible first | exact HB.out | apply below_alloc | apply pw_below_drewN | apply below_drew1 | refine below_set ?_ GE214.out | refine below_set ?_ GE215.out | refine below_set ?_ GE216.out) | exact HB.out)⟩⟩
                      · rw [if_neg c48] at H
                        have c48b0 : ((bt t218 x5_1) == 109) = false := beq_eq_false_iff_ne.mpr c48
                        have c48b1 : ((bt t218 x5_1) != 109) = true := bne_iff_ne.mpr c48
                        have H' := Aside0.mk H
                        clear H
                        have p17 : 0 ≤ (x5_1 : Int) := of_decide_eq_true (by first | (with_reducible assumption) | assumption)
                        have q17 : x5_1 < (t218.size : Int) := of_decide_eq_true (by first | (with_reducible assumption) | assumption)
                        have hx17 := bt_at t218 x5_1
                        replace p17 := eq_true p17
                        replace q17 := eq_true q17
                        have hnb54 := NB214_215.out
                        have hnc54 := NB215_214.out
                        have hnb55 := NB214_216.out
                        have hnc55 := NB216_214.out
                        have hcz56_0 : wr.cell? ⟨gb214, 0, none⟩ = some (.int .i64 a0_0) := (blk_cell BK214.out 0).trans rfl
                        have hcz56_1 : wr.cell? ⟨gb214, 1, none⟩ = some (.int .i64 a0_1) := (blk_cell BK214.out 1).trans rfl
                        have hcz56_2 : wr.cell? ⟨gb214, 2, none⟩ = some (.int .i64 a0_2) := (blk_cell BK214.out 2).trans rfl
                        have hcz56_3 : wr.cell? ⟨gb214, 3, none⟩ = some (.int .i64 a0_3) := (blk_cell BK214.out 3).trans rfl
                        have hcz56_4 : wr.cell? ⟨gb214, 4, none⟩ = some (.int .u64 a0_4) := (blk_cell BK214.out 4).trans rfl
                        have hcz56_5 : wr.cell? ⟨gb214, 5, none⟩ = some (.string a0_5) := (blk_cell BK214.out 5).trans rfl
                        have hcz56_6 : wr.cell? ⟨gb214, 6, none⟩ = some (.string a0_6) := (blk_cell BK214.out 6).trans rfl
                        have hcz56_7 : wr.cell? ⟨gb214, 7, none⟩ = some (.bool a0_7) := (blk_cell BK214.out 7).trans rfl
                        have hfz56_0 := blk_frozen BK214.out 0
                        have hfz56_1 := blk_frozen BK214.out 1
                        have hfz56_2 := blk_frozen BK214.out 2
                        have hfz56_3 := blk_frozen BK214.out 3
                        have hfz56_4 := blk_frozen BK214.out 4
                        have hfz56_5 := blk_frozen BK214.out 5
                        have hfz56_6 := blk_frozen BK214.out 6
                        have hfz56_7 := blk_frozen BK214.out 7
                        have hnb57 := NB216_215.out
                        have hnc57 := NB215_216.out
                        have hcz58_0 : wr.cell? ⟨gb216, 0, none⟩ = some (.int .i64 a0_0) := (blk_cell BK216.out 0).trans rfl
                        have hcz58_1 : wr.cell? ⟨gb216, 1, none⟩ = some (.int .i64 x217001_1) := (blk_cell BK216.out 1).trans rfl
                        have hcz58_2 : wr.cell? ⟨gb216, 2, none⟩ = some (.int .i64 x217002_1) := (blk_cell BK216.out 2).trans rfl
                        have hcz58_3 : wr.cell? ⟨gb216, 3, none⟩ = some (.int .i64 x217003_1) := (blk_cell BK216.out 3).trans rfl
                        have hcz58_4 : wr.cell? ⟨gb216, 4, none⟩ = some (.int .u64 x217004_1) := (blk_cell BK216.out 4).trans rfl
                        have hcz58_5 : wr.cell? ⟨gb216, 5, none⟩ = some (.string x217005_1) := (blk_cell BK216.out 5).trans rfl
                        have hcz58_6 : wr.cell? ⟨gb216, 6, none⟩ = some (.string x217006_1) := (blk_cell BK216.out 6).trans rfl
                        have hcz58_7 : wr.cell? ⟨gb216, 7, none⟩ = some (.bool x217007_1) := (blk_cell BK216.out 7).trans rfl
                        have hfz58_0 := blk_frozen BK216.out 0
                        have hfz58_1 := blk_frozen BK216.out 1
                        have hfz58_2 := blk_frozen BK216.out 2
                        have hfz58_3 := blk_frozen BK216.out 3
                        have hfz58_4 := blk_frozen BK216.out 4
                        have hfz58_5 := blk_frozen BK216.out 5
                        have hfz58_6 := blk_frozen BK216.out 6
                        have hfz58_7 := blk_frozen BK216.out 7
                        go_wp2
                        go_roundg k1
                        case measure => have := HK1.out; omega
                        case rel => exact ⟨(wrap64 (x5_1 + 1)), (x217001_1), (x217002_1), (x217003_1), (x217004_1), (x217005_1), (x217006_1), (a0_7), (by first | rfl | (simp; done) | (simp [*]; done)), H', ⟨by have := HK1.out; omega⟩, ⟨by (with_reducible repeat (first | refine blk_drewN ?_ _ | refine blk_drew ?_ | refine blk_alloc ?_ _)); refine blk_far ?_ NB214_216.out _; (with_reducible repeat (first | refine blk_drewN ?_ _ | refine blk_drew ?_ | refine blk_alloc ?_ _)); exact BK214.out⟩, ⟨by (with_reducible repeat (first | refine blk_drewN ?_ _ | refine blk_drew ?_ | refine blk_alloc ?_ _)); refine blk_far ?_ NB215_216.out _; (with_reducible repeat (first | refine blk_drewN ?_ _ | refine blk_drew ?_ | refine blk_alloc ?_ _)); exact BK215.out⟩, ⟨by (with_reducible repeat (first | refine blk_drewN ?_ _ | refine blk_drew ?_ | refine blk_alloc ?_ _)); refine blk_put (cs := #[.int .i64 a0_0, .int .i64 x217001_1, .int .i64 x217002_1, .int .i64 x217003_1, .int .u64 x217004_1, .string x217005_1, .string x217006_1, .bool x217007_1]) ?_ 7 _ rfl; (with_reducible repeat (first | refine blk_drewN ?_ _ | refine blk_drew ?_ | refine blk_alloc ?_ _)); exact BK216.out⟩, ⟨by repeat (first | (with_reducible first | exact HB.out | apply below_alloc | apply pw_below_drewN | apply below_drew1 | refine below_set ?_ GE214.out | refine below_set ?_ GE215.out | refine below_set ?_ GE216.out) | exact HB.out)⟩⟩
          · rw [if_neg c16] at H
            exact absurd H (by simp)
        · rw [if_neg c15] at H
          have c15b0 : decide (x5_1 < (t218.size : Int)) = false := decide_eq_false c15
          clear c15
          simp only [Option.some.injEq, Prod.mk.injEq] at H
          obtain ⟨rfl, rfl, rfl, rfl, rfl, rfl, rfl, rfl⟩ := H
          have hnb59 := NB216_214.out
          have hnc59 := NB214_216.out
          have hnb60 := NB216_215.out
          have hnc60 := NB215_216.out
          have hcz61_0 : wr.cell? ⟨gb216, 0, none⟩ = some (.int .i64 a0_0) := (blk_cell BK216.out 0).trans rfl
          have hcz61_1 : wr.cell? ⟨gb216, 1, none⟩ = some (.int .i64 x217001_1) := (blk_cell BK216.out 1).trans rfl
          have hcz61_2 : wr.cell? ⟨gb216, 2, none⟩ = some (.int .i64 x217002_1) := (blk_cell BK216.out 2).trans rfl
          have hcz61_3 : wr.cell? ⟨gb216, 3, none⟩ = some (.int .i64 x217003_1) := (blk_cell BK216.out 3).trans rfl
          have hcz61_4 : wr.cell? ⟨gb216, 4, none⟩ = some (.int .u64 x217004_1) := (blk_cell BK216.out 4).trans rfl
          have hcz61_5 : wr.cell? ⟨gb216, 5, none⟩ = some (.string x217005_1) := (blk_cell BK216.out 5).trans rfl
          have hcz61_6 : wr.cell? ⟨gb216, 6, none⟩ = some (.string x217006_1) := (blk_cell BK216.out 6).trans rfl
          have hcz61_7 : wr.cell? ⟨gb216, 7, none⟩ = some (.bool x217007_1) := (blk_cell BK216.out 7).trans rfl
          have hfz61_0 := blk_frozen BK216.out 0
          have hfz61_1 := blk_frozen BK216.out 1
          have hfz61_2 := blk_frozen BK216.out 2
          have hfz61_3 := blk_frozen BK216.out 3
          have hfz61_4 := blk_frozen BK216.out 4
          have hfz61_5 := blk_frozen BK216.out 5
          have hfz61_6 := blk_frozen BK216.out 6
          have hfz61_7 := blk_frozen BK216.out 7
          have hnb62 := NB215_214.out
          have hnc62 := NB214_215.out
          have hcz63_0 : wr.cell? ⟨gb215, 0, none⟩ = some (.int .i64 0) := (blk_cell BK215.out 0).trans rfl
          have hcz63_1 : wr.cell? ⟨gb215, 1, none⟩ = some (.int .i64 0) := (blk_cell BK215.out 1).trans rfl
          have hcz63_2 : wr.cell? ⟨gb215, 2, none⟩ = some (.int .i64 0) := (blk_cell BK215.out 2).trans rfl
          have hcz63_3 : wr.cell? ⟨gb215, 3, none⟩ = some (.int .i64 0) := (blk_cell BK215.out 3).trans rfl
          have hcz63_4 : wr.cell? ⟨gb215, 4, none⟩ = some (.int .u64 0) := (blk_cell BK215.out 4).trans rfl
          have hcz63_5 : wr.cell? ⟨gb215, 5, none⟩ = some (.string (⟨#[]⟩ : ByteArray)) := (blk_cell BK215.out 5).trans rfl
          have hcz63_6 : wr.cell? ⟨gb215, 6, none⟩ = some (.string (⟨#[]⟩ : ByteArray)) := (blk_cell BK215.out 6).trans rfl
          have hcz63_7 : wr.cell? ⟨gb215, 7, none⟩ = some (.bool false) := (blk_cell BK215.out 7).trans rfl
          have hfz63_0 := blk_frozen BK215.out 0
          have hfz63_1 := blk_frozen BK215.out 1
          have hfz63_2 := blk_frozen BK215.out 2
          have hfz63_3 := blk_frozen BK215.out 3
          have hfz63_4 := blk_frozen BK215.out 4
          have hfz63_5 := blk_frozen BK215.out 5
          have hfz63_6 := blk_frozen BK215.out 6
          have hfz63_7 := blk_frozen BK215.out 7
          go_wp2
          refine bodyPost_ret (results_cell_row rfl _ _ gb215 32 #[.int .i64 a0_0, .int .i64 x217001_1, .int .i64 x217002_1, .int .i64 x217003_1, .int .u64 x217004_1, .string x217005_1, .string x217006_1, .bool x217007_1] (0, 0) _ rfl (by (with_reducible repeat (first | refine blk_drewN ?_ _ | refine blk_drew ?_ | refine blk_alloc ?_ _)); refine blk_put (cs := #[.int .i64 a0_0, .int .i64 x217001_1, .int .i64 x217002_1, .int .i64 x217003_1, .int .u64 x217004_1, .string x217005_1, .string x217006_1, .bool false]) ?_ 7 _ rfl; (with_reducible repeat (first | refine blk_drewN ?_ _ | refine blk_drew ?_ | refine blk_alloc ?_ _)); refine blk_put (cs := #[.int .i64 a0_0, .int .i64 x217001_1, .int .i64 x217002_1, .int .i64 x217003_1, .int .u64 x217004_1, .string x217005_1, .string (⟨#[]⟩ : ByteArray), .bool false]) ?_ 6 _ rfl; (with_reducible repeat (first | refine blk_drewN ?_ _ | refine blk_drew ?_ | refine blk_alloc ?_ _)); refine blk_put (cs := #[.int .i64 a0_0, .int .i64 x217001_1, .int .i64 x217002_1, .int .i64 x217003_1, .int .u64 x217004_1, .string (⟨#[]⟩ : ByteArray), .string (⟨#[]⟩ : ByteArray), .bool false]) ?_ 5 _ rfl; (with_reducible repeat (first | refine blk_drewN ?_ _ | refine blk_drew ?_ | refine blk_alloc ?_ _)); refine blk_put (cs := #[.int .i64 a0_0, .int .i64 x217001_1, .int .i64 x217002_1, .int .i64 x217003_1, .int .u64 0, .string (⟨#[]⟩ : ByteArray), .string (⟨#[]⟩ : ByteArray), .bool false]) ?_ 4 _ rfl; (with_reducible repeat (first | refine blk_drewN ?_ _ | refine blk_drew ?_ | refine blk_alloc ?_ _)); refine blk_put (cs := #[.int .i64 a0_0, .int .i64 x217001_1, .int .i64 x217002_1, .int .i64 0, .int .u64 0, .string (⟨#[]⟩ : ByteArray), .string (⟨#[]⟩ : ByteArray), .bool false]) ?_ 3 _ rfl; (with_reducible repeat (first | refine blk_drewN ?_ _ | refine blk_drew ?_ | refine blk_alloc ?_ _)); refine blk_put (cs := #[.int .i64 a0_0, .int .i64 x217001_1, .int .i64 0, .int .i64 0, .int .u64 0, .string (⟨#[]⟩ : ByteArray), .string (⟨#[]⟩ : ByteArray), .bool false]) ?_ 2 _ rfl; (with_reducible repeat (first | refine blk_drewN ?_ _ | refine blk_drew ?_ | refine blk_alloc ?_ _)); refine blk_put (cs := #[.int .i64 a0_0, .int .i64 0, .int .i64 0, .int .i64 0, .int .u64 0, .string (⟨#[]⟩ : ByteArray), .string (⟨#[]⟩ : ByteArray), .bool false]) ?_ 1 _ rfl; (with_reducible repeat (first | refine blk_drewN ?_ _ | refine blk_drew ?_ | refine blk_alloc ?_ _)); refine blk_put (cs := #[.int .i64 0, .int .i64 0, .int .i64 0, .int .i64 0, .int .u64 0, .string (⟨#[]⟩ : ByteArray), .string (⟨#[]⟩ : ByteArray), .bool false]) ?_ 0 _ rfl; (with_reducible repeat (first | refine blk_drewN ?_ _ | refine blk_drew ?_ | refine blk_alloc ?_ _)); exact BK215.out) Tryd.underlying32 rfl (by kernel_rfl)) rfl ?_
          exact ⟨by first | rfl | (simp [errW_none, errW_some] <;> rfl) | (simp [*, errW_none, errW_some] <;> rfl), by repeat (first | (with_reducible first | exact HB.out | apply below_alloc | apply pw_below_drewN | apply below_drew1 | refine below_set ?_ GE214.out | refine below_set ?_ GE215.out | refine below_set ?_ GE216.out) | exact HB.out)⟩
  · replace c3 := Bool.eq_false_iff.mpr c3
    subst c3
    have H1 : (some (a0_0, 0, 0, 0, 0, (⟨#[]⟩ : ByteArray), (⟨#[]⟩ : ByteArray), false)) = some (r1, r2, r3, r4, r5, r6, r7, r8) := by rw [if_neg (show ¬ (false = true) by decide)] at H; exact H
    clear H
    have H := H1
    clear H1
    simp only [Option.some.injEq, Prod.mk.injEq] at H
    obtain ⟨rfl, rfl, rfl, rfl, rfl, rfl, rfl, rfl⟩ := H
    go_enter Tryd.func21, Tryd.ntmps21
    go_wp2_with (first | ((with_reducible refine gate_dst (N := 1) rfl ?_); refine box_event ?hg (N := 1) ?hd (cs := #[.int .i64 a0_0, .int .i64 a0_1, .int .i64 a0_2, .int .i64 a0_3, .int .u64 a0_4, .string a0_5, .string a0_6, .bool a0_7]) (t := 32) ?hr ?_; (case hd => rfl); (case hg => rfl); (case hr => first | (go_simp; done) | (go_simp; rfl)); intro gb214 hg w64 hbox hb; have n0_ := Aside0.mk (below_step (by repeat (first | (with_reducible first | exact HB.out | apply below_alloc | apply pw_below_drewN | apply below_drew1) | exact HB.out)) hb); have n1_ := Aside0.mk (hbox); have n2_ := Aside0.mk ((by rw [hg]; exact (below_size (by repeat (first | (with_reducible first | exact HB.out | apply below_alloc | apply pw_below_drewN | apply below_drew1) | exact HB.out))) : w.heap.size ≤ gb214)); have n3_ := Aside0.mk ((by rw [hg]; exact (below_size (by repeat (first | (with_reducible first | exact HB.out | apply below_alloc | apply pw_below_drewN | apply below_drew1) | exact HB.out))) : w.heap.size ≤ gb214)); clear HB; have HB := n0_; have BK214 := n1_; have GW214 := n2_; have GE214 := n3_; clear n0_ n1_ n2_ n3_; clear hb hbox hg) | ((with_reducible refine gate_dst (N := 2) rfl ?_); refine box_event ?hg (N := 2) ?hd (cs := #[.int .i64 0, .int .i64 0, .int .i64 0, .int .i64 0, .int .u64 0, .string (⟨#[]⟩ : ByteArray), .string (⟨#[]⟩ : ByteArray), .bool false]) (t := 32) ?hr ?_; (case hd => rfl); (case hg => rfl); (case hr => first | (go_simp; done) | (go_simp; rfl)); intro gb215 hg w65 hbox hb; have n0_ := Aside0.mk (blk_below (g := gb214) (o := .cells #[.int .i64 a0_0, .int .i64 a0_1, .int .i64 a0_2, .int .i64 a0_3, .int .u64 a0_4, .string a0_5, .string a0_6, .bool a0_7] 32 (0, 0)) (by (with_reducible repeat (first | refine blk_drewN ?_ _ | refine blk_drew ?_ | refine blk_alloc ?_ _)); exact BK214.out) hb); have n1_ := Aside0.mk (below_step (by repeat (first | (with_reducible first | exact HB.out | apply below_alloc | apply pw_below_drewN | apply below_drew1 | refine below_set ?_ GE214.out) | exact HB.out)) hb); have n2_ := Aside0.mk (hbox); have n3_ := Aside0.mk ((by rw [hg]; exact (below_size (by repeat (first | (with_reducible first | exact HB.out | apply below_alloc | apply pw_below_drewN | apply below_drew1 | refine below_set ?_ GE214.out) | exact HB.out))) : w.heap.size ≤ gb215)); have n4_ := Aside0.mk ((by rw [hg]; exact (below_size (by repeat (first | (with_reducible first | exact HB.out | apply below_alloc | apply pw_below_drewN | apply below_drew1 | refine below_set ?_ GE214.out) | exact HB.out))) : w.heap.size ≤ gb215)); have n5_ := Aside0.mk ((by rw [hg]; exact Nat.ne_of_lt (blk_lt (g := gb214) (o := .cells #[.int .i64 a0_0, .int .i64 a0_1, .int .i64 a0_2, .int .i64 a0_3, .int .u64 a0_4, .string a0_5, .string a0_6, .bool a0_7] 32 (0, 0)) (by (with_reducible repeat (first | refine blk_drewN ?_ _ | refine blk_drew ?_ | refine blk_alloc ?_ _)); exact BK214.out)) : gb214 ≠ gb215)); have n6_ := Aside0.mk ((by rw [hg]; exact Nat.ne_of_gt (blk_lt (g := gb214) (o := .cells #[.int .i64 a0_0, .int .i64 a0_1, .int .i64 a0_2, .int .i64 a0_3, .int .u64 a0_4, .string a0_5, .string a0_6, .bool a0_7] 32 (0, 0)) (by (with_reducible repeat (first | refine blk_drewN ?_ _ | refine blk_drew ?_ | refine blk_alloc ?_ _)); exact BK214.out)) : gb215 ≠ gb214)); clear BK214; clear HB; have BK214 := n0_; have HB := n1_; have BK215 := n2_; have GW215 := n3_; have GE215 := n4_; have NB214_215 := n5_; have NB215_214 := n6_; clear n0_ n1_ n2_ n3_ n4_ n5_ n6_; clear hb hbox hg; have hnb66 := NB214_215.out; have hnc66 := NB215_214.out; have hcz67_0 : w65.cell? ⟨gb214, 0, none⟩ = some (.int .i64 a0_0) := (blk_cell BK214.out 0).trans rfl; have hcz67_1 : w65.cell? ⟨gb214, 1, none⟩ = some (.int .i64 a0_1) := (blk_cell BK214.out 1).trans rfl; have hcz67_2 : w65.cell? ⟨gb214, 2, none⟩ = some (.int .i64 a0_2) := (blk_cell BK214.out 2).trans rfl; have hcz67_3 : w65.cell? ⟨gb214, 3, none⟩ = some (.int .i64 a0_3) := (blk_cell BK214.out 3).trans rfl; have hcz67_4 : w65.cell? ⟨gb214, 4, none⟩ = some (.int .u64 a0_4) := (blk_cell BK214.out 4).trans rfl; have hcz67_5 : w65.cell? ⟨gb214, 5, none⟩ = some (.string a0_5) := (blk_cell BK214.out 5).trans rfl; have hcz67_6 : w65.cell? ⟨gb214, 6, none⟩ = some (.string a0_6) := (blk_cell BK214.out 6).trans rfl; have hcz67_7 : w65.cell? ⟨gb214, 7, none⟩ = some (.bool a0_7) := (blk_cell BK214.out 7).trans rfl; have hfz67_0 := blk_frozen BK214.out 0; have hfz67_1 := blk_frozen BK214.out 1; have hfz67_2 := blk_frozen BK214.out 2; have hfz67_3 := blk_frozen BK214.out 3; have hfz67_4 := blk_frozen BK214.out 4; have hfz67_5 := blk_frozen BK214.out 5; have hfz67_6 := blk_frozen BK214.out 6; have hfz67_7 := blk_frozen BK214.out 7) | ((with_reducible refine gate_dst (N := 3) rfl ?_); refine box_event ?hg (N := 3) ?hd (cs := #[.int .i64 0, .int .i64 0, .int .i64 0, .int .i64 0, .int .u64 0, .string (⟨#[]⟩ : ByteArray), .string (⟨#[]⟩ : ByteArray), .bool false]) (t := 32) ?hr ?_; (case hd => rfl); (case hg => rfl); (case hr => first | (go_simp; done) | (go_simp; rfl)); intro gb216 hg w68 hbox hb; have n0_ := Aside0.mk (blk_below (g := gb214) (o := .cells #[.int .i64 a0_0, .int .i64 a0_1, .int .i64 a0_2, .int .i64 a0_3, .int .u64 a0_4, .string a0_5, .string a0_6, .bool a0_7] 32 (0, 0)) (by (with_reducible repeat (first | refine blk_drewN ?_ _ | refine blk_drew ?_ | refine blk_alloc ?_ _)); exact BK214.out) hb); have n1_ := Aside0.mk (blk_below (g := gb215) (o := .cells #[.int .i64 0, .int .i64 0, .int .i64 0, .int .i64 0, .int .u64 0, .string (⟨#[]⟩ : ByteArray), .string (⟨#[]⟩ : ByteArray), .bool false] 32 (0, 0)) (by (with_reducible repeat (first | refine blk_drewN ?_ _ | refine blk_drew ?_ | refine blk_alloc ?_ _)); exact BK215.out) hb); have n2_ := Aside0.mk (below_step (by repeat (first | (with_reducible first | exact HB.out | apply below_alloc | apply pw_below_drewN | apply below_drew1 | refine below_set ?_ GE214.out | refine below_set ?_ GE215.out) | exact HB.out)) hb); have n3_ := Aside0.mk (hbox); have n4_ := Aside0.mk ((by rw [hg]; exact (below_size (by repeat (first | (with_reducible first | exact HB.out | apply below_alloc | apply pw_below_drewN | apply below_drew1 | refine below_set ?_ GE214.out | refine below_set ?_ GE215.out) | exact HB.out))) : w.heap.size ≤ gb216)); have n5_ := Aside0.mk ((by rw [hg]; exact (below_size (by repeat (first | (with_reducible first | exact HB.out | apply below_alloc | apply pw_below_drewN | apply below_drew1 | refine below_set ?_ GE214.out | refine below_set ?_ GE215.out) | exact HB.out))) : w.heap.size ≤ gb216)); have n6_ := Aside0.mk ((by rw [hg]; exact Nat.ne_of_lt (blk_lt (g := gb214) (o := .cells #[.int .i64 a0_0, .int .i64 a0_1, .int .i64 a0_2, .int .i64 a0_3, .int .u64 a0_4, .string a0_5, .string a0_6, .bool a0_7] 32 (0, 0)) (by (with_reducible repeat (first | refine blk_drewN ?_ _ | refine blk_drew ?_ | refine blk_alloc ?_ _)); exact BK214.out)) : gb214 ≠ gb216)); have n7_ := Aside0.mk ((by rw [hg]; exact Nat.ne_of_gt (blk_lt (g := gb214) (o := .cells #[.int .i64 a0_0, .int .i64 a0_1, .int .i64 a0_2, .int .i64 a0_3, .int .u64 a0_4, .string a0_5, .string a0_6, .bool a0_7] 32 (0, 0)) (by (with_reducible repeat (first | refine blk_drewN ?_ _ | refine blk_drew ?_ | refine blk_alloc ?_ _)); exact BK214.out)) : gb216 ≠ gb214)); have n8_ := Aside0.mk ((by rw [hg]; exact Nat.ne_of_lt (blk_lt (g := gb215) (o := .cells #[.int .i64 0, .int .i64 0, .int .i64 0, .int .i64 0, .int .u64 0, .string (⟨#[]⟩ : ByteArray), .string (⟨#[]⟩ : ByteArray), .bool false] 32 (0, 0)) (by (with_reducible repeat (first | refine blk_drewN ?_ _ | refine blk_drew ?_ | refine blk_alloc ?_ _)); exact BK215.out)) : gb215 ≠ gb216)); have n9_ := Aside0.mk ((by rw [hg]; exact Nat.ne_of_gt (blk_lt (g := gb215) (o := .cells #[.int .i64 0, .int .i64 0, .int .i64 0, .int .i64 0, .int .u64 0, .string (⟨#[]⟩ : ByteArray), .string (⟨#[]⟩ : ByteArray), .bool false] 32 (0, 0)) (by (with_reducible repeat (first | refine blk_drewN ?_ _ | refine blk_drew ?_ | refine blk_alloc ?_ _)); exact BK215.out)) : gb216 ≠ gb215)); clear BK214; clear BK215; clear HB; have BK214 := n0_; have BK215 := n1_; have HB := n2_; have BK216 := n3_; have GW216 := n4_; have GE216 := n5_; have NB214_216 := n6_; have NB216_214 := n7_; have NB215_216 := n8_; have NB216_215 := n9_; clear n0_ n1_ n2_ n3_ n4_ n5_ n6_ n7_ n8_ n9_; clear hb hbox hg; have hnb69 := NB216_214.out; have hnc69 := NB214_216.out; have hnb70 := NB216_215.out; have hnc70 := NB215_216.out; have hcz71_0 : w68.cell? ⟨gb216, 0, none⟩ = some (.int .i64 0) := (blk_cell BK216.out 0).trans rfl; have hcz71_1 : w68.cell? ⟨gb216, 1, none⟩ = some (.int .i64 0) := (blk_cell BK216.out 1).trans rfl; have hcz71_2 : w68.cell? ⟨gb216, 2, none⟩ = some (.int .i64 0) := (blk_cell BK216.out 2).trans rfl; have hcz71_3 : w68.cell? ⟨gb216, 3, none⟩ = some (.int .i64 0) := (blk_cell BK216.out 3).trans rfl; have hcz71_4 : w68.cell? ⟨gb216, 4, none⟩ = some (.int .u64 0) := (blk_cell BK216.out 4).trans rfl; have hcz71_5 : w68.cell? ⟨gb216, 5, none⟩ = some (.string (⟨#[]⟩ : ByteArray)) := (blk_cell BK216.out 5).trans rfl; have hcz71_6 : w68.cell? ⟨gb216, 6, none⟩ = some (.string (⟨#[]⟩ : ByteArray)) := (blk_cell BK216.out 6).trans rfl; have hcz71_7 : w68.cell? ⟨gb216, 7, none⟩ = some (.bool false) := (blk_cell BK216.out 7).trans rfl; have hfz71_0 := blk_frozen BK216.out 0; have hfz71_1 := blk_frozen BK216.out 1; have hfz71_2 := blk_frozen BK216.out 2; have hfz71_3 := blk_frozen BK216.out 3; have hfz71_4 := blk_frozen BK216.out 4; have hfz71_5 := blk_frozen BK216.out 5; have hfz71_6 := blk_frozen BK216.out 6; have hfz71_7 := blk_frozen BK216.out 7; have hcz72_0 : w68.cell? ⟨gb214, 0, none⟩ = some (.int .i64 a0_0) := (blk_cell BK214.out 0).trans rfl; have hcz72_1 : w68.cell? ⟨gb214, 1, none⟩ = some (.int .i64 a0_1) := (blk_cell BK214.out 1).trans rfl; have hcz72_2 : w68.cell? ⟨gb214, 2, none⟩ = some (.int .i64 a0_2) := (blk_cell BK214.out 2).trans rfl; have hcz72_3 : w68.cell? ⟨gb214, 3, none⟩ = some (.int .i64 a0_3) := (blk_cell BK214.out 3).trans rfl; have hcz72_4 : w68.cell? ⟨gb214, 4, none⟩ = some (.int .u64 a0_4) := (blk_cell BK214.out 4).trans rfl; have hcz72_5 : w68.cell? ⟨gb214, 5, none⟩ = some (.string a0_5) := (blk_cell BK214.out 5).trans rfl; have hcz72_6 : w68.cell? ⟨gb214, 6, none⟩ = some (.string a0_6) := (blk_cell BK214.out 6).trans rfl; have hcz72_7 : w68.cell? ⟨gb214, 7, none⟩ = some (.bool a0_7) := (blk_cell BK214.out 7).trans rfl; have hfz72_0 := blk_frozen BK214.out 0; have hfz72_1 := blk_frozen BK214.out 1; have hfz72_2 := blk_frozen BK214.out 2; have hfz72_3 := blk_frozen BK214.out 3; have hfz72_4 := blk_frozen BK214.out 4; have hfz72_5 := blk_frozen BK214.out 5; have hfz72_6 := blk_frozen BK214.out 6; have hfz72_7 := blk_frozen BK214.out 7) | ((with_reducible refine gate_callee (f := 37) rfl ?_); refine goesL_ (some 11) rfl rfl Tryd.func37 (by kernel_rfl) rfl #[.int .i64 a0_0] rfl (by (try simp only [List.map_toArray, List.map_cons, List.map_nil]); first | done | rfl | (simp only [List.length_drop, List.length_take]; rfl)) ?_; (with_reducible refine (gharryref25_known.calls a0_0 false _ A2.out).mono ?_); rintro e w' ⟨rfl, ⟨nd, rfl⟩⟩; refine ⟨_, rfl, ?_⟩; have hcz73_0 : w68.cell? ⟨gb215, 0, none⟩ = some (.int .i64 0) := (blk_cell BK215.out 0).trans rfl; have hcz73_1 : w68.cell? ⟨gb215, 1, none⟩ = some (.int .i64 0) := (blk_cell BK215.out 1).trans rfl; have hcz73_2 : w68.cell? ⟨gb215, 2, none⟩ = some (.int .i64 0) := (blk_cell BK215.out 2).trans rfl; have hcz73_3 : w68.cell? ⟨gb215, 3, none⟩ = some (.int .i64 0) := (blk_cell BK215.out 3).trans rfl; have hcz73_4 : w68.cell? ⟨gb215, 4, none⟩ = some (.int .u64 0) := (blk_cell BK215.out 4).trans rfl; have hcz73_5 : w68.cell? ⟨gb215, 5, none⟩ = some (.string (⟨#[]⟩ : ByteArray)) := (blk_cell BK215.out 5).trans rfl; have hcz73_6 : w68.cell? ⟨gb215, 6, none⟩ = some (.string (⟨#[]⟩ : ByteArray)) := (blk_cell BK215.out 6).trans rfl; have hcz73_7 : w68.cell? ⟨gb215, 7, none⟩ = some (.bool false) := (blk_cell BK215.out 7).trans rfl; have hfz73_0 := blk_frozen BK215.out 0; have hfz73_1 := blk_frozen BK215.out 1; have hfz73_2 := blk_frozen BK215.out 2; have hfz73_3 := blk_frozen BK215.out 3; have hfz73_4 := blk_frozen BK215.out 4; have hfz73_5 := blk_frozen BK215.out 5; have hfz73_6 := blk_frozen BK215.out 6; have hfz73_7 := blk_frozen BK215.out 7))
    refine bodyPost_ret (results_cell_row rfl _ _ gb215 32 #[.int .i64 a0_0, .int .i64 0, .int .i64 0, .int .i64 0, .int .u64 0, .string (⟨#[]⟩ : ByteArray), .string (⟨#[]⟩ : ByteArray), .bool false] (0, 0) _ rfl (by (with_reducible repeat (first | refine blk_drewN ?_ _ | refine blk_drew ?_ | refine blk_alloc ?_ _)); refine blk_put (cs := #[.int .i64 a0_0, .int .i64 0, .int .i64 0, .int .i64 0, .int .u64 0, .string (⟨#[]⟩ : ByteArray), .string (⟨#[]⟩ : ByteArray), .bool false]) ?_ 7 _ rfl; (with_reducible repeat (first | refine blk_drewN ?_ _ | refine blk_drew ?_ | refine blk_alloc ?_ _)); refine blk_put (cs := #[.int .i64 a0_0, .int .i64 0, .int .i64 0, .int .i64 0, .int .u64 0, .string (⟨#[]⟩ : ByteArray), .string (⟨#[]⟩ : ByteArray), .bool false]) ?_ 6 _ rfl; (with_reducible repeat (first | refine blk_drewN ?_ _ | refine blk_drew ?_ | refine blk_alloc ?_ _)); refine blk_put (cs := #[.int .i64 a0_0, .int .i64 0, .int .i64 0, .int .i64 0, .int .u64 0, .string (⟨#[]⟩ : ByteArray), .string (⟨#[]⟩ : ByteArray), .bool false]) ?_ 5 _ rfl; (with_reducible repeat (first | refine blk_drewN ?_ _ | refine blk_drew ?_ | refine blk_alloc ?_ _)); refine blk_put (cs := #[.int .i64 a0_0, .int .i64 0, .int .i64 0, .int .i64 0, .int .u64 0, .string (⟨#[]⟩ : ByteArray), .string (⟨#[]⟩ : ByteArray), .bool false]) ?_ 4 _ rfl; (with_reducible repeat (first | refine blk_drewN ?_ _ | refine blk_drew ?_ | refine blk_alloc ?_ _)); refine blk_put (cs := #[.int .i64 a0_0, .int .i64 0, .int .i64 0, .int .i64 0, .int .u64 0, .string (⟨#[]⟩ : ByteArray), .string (⟨#[]⟩ : ByteArray), .bool false]) ?_ 3 _ rfl; (with_reducible repeat (first | refine blk_drewN ?_ _ | refine blk_drew ?_ | refine blk_alloc ?_ _)); refine blk_put (cs := #[.int .i64 a0_0, .int .i64 0, .int .i64 0, .int .i64 0, .int .u64 0, .string (⟨#[]⟩ : ByteArray), .string (⟨#[]⟩ : ByteArray), .bool false]) ?_ 2 _ rfl; (with_reducible repeat (first | refine blk_drewN ?_ _ | refine blk_drew ?_ | refine blk_alloc ?_ _)); refine blk_put (cs := #[.int .i64 a0_0, .int .i64 0, .int .i64 0, .int .i64 0, .int .u64 0, .string (⟨#[]⟩ : ByteArray), .string (⟨#[]⟩ : ByteArray), .bool false]) ?_ 1 _ rfl; (with_reducible repeat (first | refine blk_drewN ?_ _ | refine blk_drew ?_ | refine blk_alloc ?_ _)); refine blk_put (cs := #[.int .i64 0, .int .i64 0, .int .i64 0, .int .i64 0, .int .u64 0, .string (⟨#[]⟩ : ByteArray), .string (⟨#[]⟩ : ByteArray), .bool false]) ?_ 0 _ rfl; (with_reducible repeat (first | refine blk_drewN ?_ _ | refine blk_drew ?_ | refine blk_alloc ?_ _)); refine blk_far ?_ NB215_216.out _; (with_reducible repeat (first | refine blk_drewN ?_ _ | refine blk_drew ?_ | refine blk_alloc ?_ _)); refine blk_far ?_ NB215_216.out _; (with_reducible repeat (first | refine blk_drewN ?_ _ | refine blk_drew ?_ | refine blk_alloc ?_ _)); refine blk_far ?_ NB215_216.out _; (with_reducible repeat (first | refine blk_drewN ?_ _ | refine blk_drew ?_ | refine blk_alloc ?_ _)); refine blk_far ?_ NB215_216.out _; (with_reducible repeat (first | refine blk_drewN ?_ _ | refine blk_drew ?_ | refine blk_alloc ?_ _)); refine blk_far ?_ NB215_216.out _; (with_reducible repeat (first | refine blk_drewN ?_ _ | refine blk_drew ?_ | refine blk_alloc ?_ _)); refine blk_far ?_ NB215_216.out _; (with_reducible repeat (first | refine blk_drewN ?_ _ | refine blk_drew ?_ | refine blk_alloc ?_ _)); refine blk_far ?_ NB215_216.out _; (with_reducible repeat (first | refine blk_drewN ?_ _ | refine blk_drew ?_ | refine blk_alloc ?_ _)); refine blk_far ?_ NB215_216.out _; (with_reducible repeat (first | refine blk_drewN ?_ _ | refine blk_drew ?_ | refine blk_alloc ?_ _)); exact BK215.out) Tryd.underlying32 rfl (by kernel_rfl)) rfl ?_
    exact ⟨by first | rfl | (simp [errW_none, errW_some] <;> rfl) | (simp [*, errW_none, errW_some] <;> rfl), by repeat (first | (with_reducible first | exact HB.out | apply below_alloc | apply pw_below_drewN | apply below_drew1 | refine below_set ?_ GE214.out | refine below_set ?_ GE215.out | refine below_set ?_ GE216.out) | exact HB.out)⟩

end Go.Proofs.YtflbkgpmepfhlaaDoor.HSay
