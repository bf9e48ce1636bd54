import Derived.Test.YtflbkgpmepfhlaaDoorFtypes
import Derived.Test.YtflbkgpmepfhlaaDoorFgharrylaw25cut
import Derived.Test.YtflbkgpmepfhlaaDoorFgharrylaw25awake
import Derived.Test.YtflbkgpmepfhlaaDoorFsayEvent
import Derived.Test.YtflbkgpmepfhlaaDoorFgharrylaw25event
namespace Go.Proofs.YtflbkgpmepfhlaaDoor.HSay
open Go.RowKit Go.Proofs.YtflbkgpmepfhlaaDoor.Hook Go.Proofs.YtflbkgpmepfhlaaDoorW.PrintWords Go.Proofs.YtflbkgpmepfhlaaDoorW.PrintLast Go.Proofs.YtflbkgpmepfhlaaDoorW.PrintMore
attribute [local go_sem] max2_int min2_int max_two min_two max_three min_three max_four min_four   -- for this text's walks alone
set_option linter.unusedVariables false
set_option linter.unusedSimpArgs false
/-! ### gharrylaw25_SayEvents: function 9 -/
def gharrylaw25_SayEvents.l0 : Nat → Int → Int → Int → Int → Int → ByteArray → ByteArray → Bool → Bool → Int → Bool → Int → List (S52) → Int → Int → Int → Int → Int → Option (Bool)
  | 0, _, _, _, _, _, _, _, _, _, _, _, _, _, _, _, _, _, _ => none
  | k + 1, x3, x234000, x234001, x234002, x234003, x234004, x234005, x234006, x234007, x234008, x234009, x234010, x234011, x234012, x234013, x234014, x234015, x234016 => if x3 < (x234011.length : Int) then (if 0 ≤ x3 then (if (((rd_T52 x234011 x3).f0).size : Int) > 50 then ((gharrylaw25_awake.f).bind fun t236 => (some t236)) else (if (((rd_T52 x234011 x3).f1).size : Int) > 50 then ((gharrylaw25_awake.f).bind fun t238 => (some t238)) else (gharrylaw25_SayEvents.l0 k (wrap64 (x3 + 1)) x234000 x234001 x234002 x234003 x234004 x234005 x234006 x234007 x234008 x234009 x234010 x234011 x234012 x234013 x234014 x234015 x234016))) else (none)) else ((say_Event.f k x234000 x234001 x234002 x234003 x234004 x234005 x234006 x234007 x234008 x234009 x234010 x234011 x234012 x234013 x234014 x234015 x234016).bind fun t239 => ((gharrylaw25_event.f k x234000 x234001 x234002 x234003 x234004 x234005 x234006 x234007 x234008 x234009 x234010 x234011 x234012 x234013 x234014 x234015 x234016).bind fun t240 => (if t239.toList = t240.toList then ((gharrylaw25_awake.f).bind fun t241 => (some t241)) else (some false))))
def gharrylaw25_SayEvents.f (k : Nat) (a0_0 : Int) (a0_1 : Int) (a0_2 : Int) (a0_3 : Int) (a0_4 : ByteArray) (a0_5 : ByteArray) (a0_6 : Bool) (a0_7 : Bool) (a0_8 : Int) (a0_9 : Bool) (a0_10 : Int) (l0_11 : List (S52)) (a0_12 : Int) (a0_13 : Int) (a0_14 : Int) (a0_15 : Int) (a0_16 : Int) : Option (Bool) := (gharrylaw25_cut.f a0_5).bind fun t234 => (gharrylaw25_SayEvents.l0 k 0 a0_0 a0_1 a0_2 a0_3 a0_4 t234 a0_6 a0_7 a0_8 a0_9 a0_10 l0_11 a0_12 a0_13 a0_14 a0_15 a0_16)
theorem gharrylaw25_SayEvents.mono_l : ∀ k, (∀ y0 y1 y2 y3 y4 y5 y6 y7 y8 y9 y10 y11 y12 y13 y14 y15 y16 y17, LeO (gharrylaw25_SayEvents.l0 k y0 y1 y2 y3 y4 y5 y6 y7 y8 y9 y10 y11 y12 y13 y14 y15 y16 y17) (gharrylaw25_SayEvents.l0 (k + 1) y0 y1 y2 y3 y4 y5 y6 y7 y8 y9 y10 y11 y12 y13 y14 y15 y16 y17))
  | 0 => fun _ _ _ _ _ _ _ _ _ _ _ _ _ _ _ _ _ _ r h => by simp [gharrylaw25_SayEvents.l0] at h
  | k + 1 => by
    have ih0 := gharrylaw25_SayEvents.mono_l k
    · intro y0 y1 y2 y3 y4 y5 y6 y7 y8 y9 y10 y11 y12 y13 y14 y15 y16 y17
      unfold gharrylaw25_SayEvents.l0
      repeat' first
      | (with_reducible exact ih0 _ _ _ _ _ _ _ _ _ _ _ _ _ _ _ _ _ _)
      | (with_reducible exact gharrylaw25_event.mono _ _ _ _ _ _ _ _ _ _ _ _ _ _ _ _ _ _)
      | (with_reducible exact say_Event.mono _ _ _ _ _ _ _ _ _ _ _ _ _ _ _ _ _ _)
      | (with_reducible exact LeO.refl _)
      | (with_reducible exact LeO.none _)
      | (with_reducible refine LeO.ite ?_ ?_)
      | (with_reducible refine LeO.bind ?_ (fun _ => ?_))
      | exact ih0 _ _ _ _ _ _ _ _ _ _ _ _ _ _ _ _ _ _
      | exact gharrylaw25_event.mono _ _ _ _ _ _ _ _ _ _ _ _ _ _ _ _ _ _
      | exact say_Event.mono _ _ _ _ _ _ _ _ _ _ _ _ _ _ _ _ _ _
      | exact LeO.none _
      | refine LeO.ite ?_ ?_
      | refine LeO.bind ?_ (fun _ => ?_)
theorem gharrylaw25_SayEvents.mono : ∀ a0 a1 a2 a3 a4 a5 a6 a7 a8 a9 a10 a11 a12 a13 a14 a15 a16 k, LeO (gharrylaw25_SayEvents.f k a0 a1 a2 a3 a4 a5 a6 a7 a8 a9 a10 a11 a12 a13 a14 a15 a16) (gharrylaw25_SayEvents.f (k + 1) a0 a1 a2 a3 a4 a5 a6 a7 a8 a9 a10 a11 a12 a13 a14 a15 a16) := by
  intro a0 a1 a2 a3 a4 a5 a6 a7 a8 a9 a10 a11 a12 a13 a14 a15 a16 k
  have ih0 := gharrylaw25_SayEvents.mono_l k
  unfold gharrylaw25_SayEvents.f
  repeat' first
      | (with_reducible exact ih0 _ _ _ _ _ _ _ _ _ _ _ _ _ _ _ _ _ _)
      | (with_reducible exact gharrylaw25_event.mono _ _ _ _ _ _ _ _ _ _ _ _ _ _ _ _ _ _)
      | (with_reducible exact say_Event.mono _ _ _ _ _ _ _ _ _ _ _ _ _ _ _ _ _ _)
      | (with_reducible exact LeO.refl _)
      | (with_reducible exact LeO.none _)
      | (with_reducible refine LeO.ite ?_ ?_)
      | (with_reducible refine LeO.bind ?_ (fun _ => ?_))
      | exact ih0 _ _ _ _ _ _ _ _ _ _ _ _ _ _ _ _ _ _
      | exact gharrylaw25_event.mono _ _ _ _ _ _ _ _ _ _ _ _ _ _ _ _ _ _
      | exact say_Event.mono _ _ _ _ _ _ _ _ _ _ _ _ _ _ _ _ _ _
      | exact LeO.none _
      | refine LeO.ite ?_ ?_
      | refine LeO.bind ?_ (fun _ => ?_)
def gharrylaw25_SayEvents.T9 : Bool × List (List Nat × List Nat) := (true, [([], []), ([0], [0]), ([], []), ([2, 1], [2]), ([1, 3], [1, 3]), ([4, 3], [4]), ([5, 5], [5]), ([5, 6], [5, 6]), ([7, 6, 0, 1, 2, 3, 4, 5, 6, 7], [7])])
def gharrylaw25_SayEvents.B9 : List Nat := [0, 1, 0, 7, 15, 31, 63, 127, 255]
theorem gharrylaw25_SayEvents.tab9 : rtab .any (opsOf Tryd.f9 9) = gharrylaw25_SayEvents.T9 := by kernel_rfl
theorem gharrylaw25_SayEvents.bits9 : waitsOk gharrylaw25_SayEvents.T9.2 gharrylaw25_SayEvents.B9 = true := by kernel_rfl
set_option maxHeartbeats 8000000 in
set_option maxRecDepth 100000 in
theorem gharrylaw25_SayEvents.short (k : Nat) (a0_0 : Int) (a0_1 : Int) (a0_2 : Int) (a0_3 : Int) (a0_4 : ByteArray) (a0_5 : ByteArray) (a0_6 : Bool) (a0_7 : Bool) (a0_8 : Int) (a0_9 : Bool) (a0_10 : Int) (A0_11 : Option Addr) (c0_11 : Nat) (l0_11 : List (S52)) (a0_12 : Int) (a0_13 : Int) (a0_14 : Int) (a0_15 : Int) (a0_16 : Int) (r : Bool) (w : World) (hr0_11 : Kd.C k52 w A0_11 l0_11.length l0_11) (hc0_11 : l0_11.length ≤ c0_11) (h20 : l0_11.length ≤ 20) (h : gharrylaw25_SayEvents.f k a0_0 a0_1 a0_2 a0_3 a0_4 a0_5 a0_6 a0_7 a0_8 a0_9 a0_10 l0_11 a0_12 a0_13 a0_14 a0_15 a0_16 = some r) :
    Calls Tryd.prog 9 #[.agg #[.int .i64 a0_0, .int .i64 a0_1, .int .i64 a0_2, .int .i64 a0_3, .string a0_4, .string a0_5, .bool a0_6, .bool a0_7, .int .i64 a0_8, .bool a0_9, .int .i64 a0_10, .slice A0_11 l0_11.length c0_11, .int .i64 a0_12, .int .i64 a0_13, .int .i64 a0_14, .int .i64 a0_15, .int .i64 a0_16]] w fun e w' => e = .returned (.bool r) ∧ Below w.heap.size w w' := by
  have hu50 := Tryd.underlying50
  have HR0_11 := Aside0.mk hr0_11
  have HC0_11 := Aside0.mk hc0_11
  clear hr0_11 hc0_11
  have HB := Aside0.mk (Below.refl w.heap.size w)
  have H : ((gharrylaw25_cut.f a0_5).bind fun t234 => (gharrylaw25_SayEvents.l0 k 0 a0_0 a0_1 a0_2 a0_3 a0_4 t234 a0_6 a0_7 a0_8 a0_9 a0_10 l0_11 a0_12 a0_13 a0_14 a0_15 a0_16)) = some r := h
  clear h
  replace H := Option.bind_eq_some_iff.mp H
  obtain ⟨t234, A20, H⟩ := H
  replace H : (gharrylaw25_SayEvents.l0 k 0 a0_0 a0_1 a0_2 a0_3 a0_4 t234 a0_6 a0_7 a0_8 a0_9 a0_10 l0_11 a0_12 a0_13 a0_14 a0_15 a0_16) = some r := H
  have A2 := Aside0.mk A20
  clear A20
  have H' := Aside0.mk H
  clear H
  have h20b : decide ((20 : Int) < (l0_11.length : Int)) = false := decide_eq_false (by omega)
  have h20c : decide (20 < l0_11.length) = false := decide_eq_false (by omega)
  go_enter Tryd.func9, Tryd.ntmps9
  go_wp2_with (first | ((with_reducible refine gate_dst (N := 1) rfl ?_); (try (refine gate_guard (by rfl) ?_; dsimp only)); refine box_event ?hg (N := 1) ?hd (cs := #[.int .i64 a0_0, .int .i64 a0_1, .int .i64 a0_2, .int .i64 a0_3, .string a0_4, .string a0_5, .bool a0_6, .bool a0_7, .int .i64 a0_8, .bool a0_9, .int .i64 a0_10, .slice A0_11 l0_11.length c0_11, .int .i64 a0_12, .int .i64 a0_13, .int .i64 a0_14, .int .i64 a0_15, .int .i64 a0_16]) (t := 50) ?hr ?_; (case hd => rfl); (case hg => rfl); (case hr => first | (go_simp; done) | (go_simp; rfl)); intro gb233 hg w3 hbox hb; have n0_ := Aside0.mk (below_step (by repeat (first | (with_reducible first | exact HB.out | apply below_alloc | apply pw_below_drewN | apply below_drew1) | exact HB.out)) hb); have n1_ := Aside0.mk (hbox); have n2_ := Aside0.mk ((by rw [hg]; exact (below_size (by repeat (first | (with_reducible first | exact HB.out | apply below_alloc | apply pw_below_drewN | apply below_drew1) | exact HB.out))) : w.heap.size ≤ gb233)); have n3_ := Aside0.mk ((by rw [hg]; exact (below_size (by repeat (first | (with_reducible first | exact HB.out | apply below_alloc | apply pw_below_drewN | apply below_drew1) | exact HB.out))) : w.heap.size ≤ gb233)); clear HB; have HB := n0_; have BK233 := n1_; have GW233 := n2_; have GE233 := n3_; clear n0_ n1_ n2_ n3_; clear hb hbox hg; have hcz4_0 : w3.cell? ⟨gb233, 0, none⟩ = some (.int .i64 a0_0) := (blk_cell BK233.out 0).trans rfl; have hcz4_1 : w3.cell? ⟨gb233, 1, none⟩ = some (.int .i64 a0_1) := (blk_cell BK233.out 1).trans rfl; have hcz4_2 : w3.cell? ⟨gb233, 2, none⟩ = some (.int .i64 a0_2) := (blk_cell BK233.out 2).trans rfl; have hcz4_3 : w3.cell? ⟨gb233, 3, none⟩ = some (.int .i64 a0_3) := (blk_cell BK233.out 3).trans rfl; have hcz4_4 : w3.cell? ⟨gb233, 4, none⟩ = some (.string a0_4) := (blk_cell BK233.out 4).trans rfl; have hcz4_5 : w3.cell? ⟨gb233, 5, none⟩ = some (.string a0_5) := (blk_cell BK233.out 5).trans rfl; have hcz4_6 : w3.cell? ⟨gb233, 6, none⟩ = some (.bool a0_6) := (blk_cell BK233.out 6).trans rfl; have hcz4_7 : w3.cell? ⟨gb233, 7, none⟩ = some (.bool a0_7) := (blk_cell BK233.out 7).trans rfl; have hcz4_8 : w3.cell? ⟨gb233, 8, none⟩ = some (.int .i64 a0_8) := (blk_cell BK233.out 8).trans rfl; have hcz4_9 : w3.cell? ⟨gb233, 9, none⟩ = some (.bool a0_9) := (blk_cell BK233.out 9).trans rfl; have hcz4_10 : w3.cell? ⟨gb233, 10, none⟩ = some (.int .i64 a0_10) := (blk_cell BK233.out 10).trans rfl; have hcz4_11 : w3.cell? ⟨gb233, 11, none⟩ = some (.slice A0_11 l0_11.length c0_11) := (blk_cell BK233.out 11).trans rfl; have hcz4_12 : w3.cell? ⟨gb233, 12, none⟩ = some (.int .i64 a0_12) := (blk_cell BK233.out 12).trans rfl; have hcz4_13 : w3.cell? ⟨gb233, 13, none⟩ = some (.int .i64 a0_13) := (blk_cell BK233.out 13).trans rfl; have hcz4_14 : w3.cell? ⟨gb233, 14, none⟩ = some (.int .i64 a0_14) := (blk_cell BK233.out 14).trans rfl; have hcz4_15 : w3.cell? ⟨gb233, 15, none⟩ = some (.int .i64 a0_15) := (blk_cell BK233.out 15).trans rfl; have hcz4_16 : w3.cell? ⟨gb233, 16, none⟩ = some (.int .i64 a0_16) := (blk_cell BK233.out 16).trans rfl; have hfz4_0 := blk_frozen BK233.out 0; have hfz4_1 := blk_frozen BK233.out 1; have hfz4_2 := blk_frozen BK233.out 2; have hfz4_3 := blk_frozen BK233.out 3; have hfz4_4 := blk_frozen BK233.out 4; have hfz4_5 := blk_frozen BK233.out 5; have hfz4_6 := blk_frozen BK233.out 6; have hfz4_7 := blk_frozen BK233.out 7; have hfz4_8 := blk_frozen BK233.out 8; have hfz4_9 := blk_frozen BK233.out 9; have hfz4_10 := blk_frozen BK233.out 10; have hfz4_11 := blk_frozen BK233.out 11; have hfz4_12 := blk_frozen BK233.out 12; have hfz4_13 := blk_frozen BK233.out 13; have hfz4_14 := blk_frozen BK233.out 14; have hfz4_15 := blk_frozen BK233.out 15; have hfz4_16 := blk_frozen BK233.out 16) | ((with_reducible refine gate_callee (f := 11) rfl ?_); refine goesL_ (some 6) rfl rfl Tryd.func11 (by kernel_rfl) rfl #[.string a0_5] rfl (by (try simp only [List.map_toArray, List.map_cons, List.map_nil]); first | done | rfl | (simp only [List.length_drop, List.length_take]; rfl)) ?_; (with_reducible refine (gharrylaw25_cut.calls a0_5 t234 _ A2.out).mono ?_); rintro e w' ⟨rfl, ⟨nd, rfl⟩⟩; refine ⟨_, rfl, ?_⟩; (try (rw [drewN_self w3]; generalize hq_ : World.drewN w3 _ = w3; have n0_ : Aside0 (w3.heap[gb233]? = some (.cells #[.int .i64 a0_0, .int .i64 a0_1, .int .i64 a0_2, .int .i64 a0_3, .string a0_4, .string a0_5, .bool a0_6, .bool a0_7, .int .i64 a0_8, .bool a0_9, .int .i64 a0_10, .slice A0_11 l0_11.length c0_11, .int .i64 a0_12, .int .i64 a0_13, .int .i64 a0_14, .int .i64 a0_15, .int .i64 a0_16] 50 (0, 0))) := ⟨by rw [← hq_]; exact (by (with_reducible repeat (first | refine blk_drewN ?_ _ | refine blk_drew ?_ | refine blk_alloc ?_ _)); exact BK233.out)⟩; have n1_ : Aside0 (Below w.heap.size w w3) := ⟨by rw [← hq_]; exact (by repeat (first | (with_reducible first | exact HB.out | apply below_alloc | apply pw_below_drewN | apply below_drew1 | refine below_set ?_ GE233.out) | exact HB.out))⟩; clear BK233 HB hq_; have BK233 := n0_; have HB := n1_; clear n0_ n1_)); (try (have hcz4_0 : w3.cell? ⟨gb233, 0, none⟩ = some (.int .i64 a0_0) := (blk_cell BK233.out 0).trans rfl; have hcz4_1 : w3.cell? ⟨gb233, 1, none⟩ = some (.int .i64 a0_1) := (blk_cell BK233.out 1).trans rfl; have hcz4_2 : w3.cell? ⟨gb233, 2, none⟩ = some (.int .i64 a0_2) := (blk_cell BK233.out 2).trans rfl; have hcz4_3 : w3.cell? ⟨gb233, 3, none⟩ = some (.int .i64 a0_3) := (blk_cell BK233.out 3).trans rfl; have hcz4_4 : w3.cell? ⟨gb233, 4, none⟩ = some (.string a0_4) := (blk_cell BK233.out 4).trans rfl; have hcz4_5 : w3.cell? ⟨gb233, 5, none⟩ = some (.string a0_5) := (blk_cell BK233.out 5).trans rfl; have hcz4_6 : w3.cell? ⟨gb233, 6, none⟩ = some (.bool a0_6) := (blk_cell BK233.out 6).trans rfl; have hcz4_7 : w3.cell? ⟨gb233, 7, none⟩ = some (.bool a0_7) := (blk_cell BK233.out 7).trans rfl; have hcz4_8 : w3.cell? ⟨gb233, 8, none⟩ = some (.int .i64 a0_8) := (blk_cell BK233.out 8).trans rfl; have hcz4_9 : w3.cell? ⟨gb233, 9, none⟩ = some (.bool a0_9) := (blk_cell BK233.out 9).trans rfl; have hcz4_10 : w3.cell? ⟨gb233, 10, none⟩ = some (.int .i64 a0_10) := (blk_cell BK233.out 10).trans rfl; have hcz4_11 : w3.cell? ⟨gb233, 11, none⟩ = some (.slice A0_11 l0_11.length c0_11) := (blk_cell BK233.out 11).trans rfl; have hcz4_12 : w3.cell? ⟨gb233, 12, none⟩ = some (.int .i64 a0_12) := (blk_cell BK233.out 12).trans rfl; have hcz4_13 : w3.cell? ⟨gb233, 13, none⟩ = some (.int .i64 a0_13) := (blk_cell BK233.out 13).trans rfl; have hcz4_14 : w3.cell? ⟨gb233, 14, none⟩ = some (.int .i64 a0_14) := (blk_cell BK233.out 14).trans rfl; have hcz4_15 : w3.cell? ⟨gb233, 15, none⟩ = some (.int .i64 a0_15) := (blk_cell BK233.out 15).trans rfl; have hcz4_16 : w3.cell? ⟨gb233, 16, none⟩ = some (.int .i64 a0_16) := (blk_cell BK233.out 16).trans rfl; have hfz4_0 := blk_frozen BK233.out 0; have hfz4_1 := blk_frozen BK233.out 1; have hfz4_2 := blk_frozen BK233.out 2; have hfz4_3 := blk_frozen BK233.out 3; have hfz4_4 := blk_frozen BK233.out 4; have hfz4_5 := blk_frozen BK233.out 5; have hfz4_6 := blk_frozen BK233.out 6; have hfz4_7 := blk_frozen BK233.out 7; have hfz4_8 := blk_frozen BK233.out 8; have hfz4_9 := blk_frozen BK233.out 9; have hfz4_10 := blk_frozen BK233.out 10; have hfz4_11 := blk_frozen BK233.out 11; have hfz4_12 := blk_frozen BK233.out 12; have hfz4_13 := blk_frozen BK233.out 13; have hfz4_14 := blk_frozen BK233.out 14; have hfz4_15 := blk_frozen BK233.out 15; have hfz4_16 := blk_frozen BK233.out 16))))
  go_loopg [3] k (fun kq v3 w' => ∃ (x3_1 : Int), v3 = .int .i64 x3_1 ∧ Aside0 (gharrylaw25_SayEvents.l0 kq x3_1 a0_0 a0_1 a0_2 a0_3 a0_4 t234 a0_6 a0_7 a0_8 a0_9 a0_10 l0_11 a0_12 a0_13 a0_14 a0_15 a0_16 = some r) ∧ Aside0 (kq ≤ k) ∧ Aside0 (w'.heap[gb233]? = some (.cells #[.int .i64 a0_0, .int .i64 a0_1, .int .i64 a0_2, .int .i64 a0_3, .string a0_4, .string t234, .bool a0_6, .bool a0_7, .int .i64 a0_8, .bool a0_9, .int .i64 a0_10, (.slice A0_11 l0_11.length c0_11), .int .i64 a0_12, .int .i64 a0_13, .int .i64 a0_14, .int .i64 a0_15, .int .i64 a0_16] 50 (0, 0))) ∧ Aside0 (Below w.heap.size w w'))
  case atStart => exact ⟨(0), (by first | rfl | (simp; done) | (simp [*]; done)), H', ⟨Nat.le_refl _⟩, ⟨by (with_reducible repeat (first | refine blk_drewN ?_ _ | refine blk_drew ?_ | refine blk_alloc ?_ _)); refine blk_put (cs := #[.int .i64 a0_0, .int .i64 a0_1, .int .i64 a0_2, .int .i64 a0_3, .string a0_4, .string a0_5, .bool a0_6, .bool a0_7, .int .i64 a0_8, .bool a0_9, .int .i64 a0_10, .slice A0_11 l0_11.length c0_11, .int .i64 a0_12, .int .i64 a0_13, .int .i64 a0_14, .int .i64 a0_15, .int .i64 a0_16]) ?_ 5 _ rfl; (with_reducible repeat (first | refine blk_drewN ?_ _ | refine blk_drew ?_ | refine blk_alloc ?_ _)); exact BK233.out⟩, ⟨by repeat (first | (with_reducible first | exact HB.out | apply below_alloc | apply pw_below_drewN | apply below_drew1 | refine below_set ?_ GE233.out) | exact HB.out)⟩⟩
  case round =>
    clear H'
    try clear c1
    try clear p2
    try clear hcz4_0
    try clear hcz4_1
    try clear hcz4_10
    try clear hcz4_11
    try clear hcz4_12
    try clear hcz4_13
    try clear hcz4_14
    try clear hcz4_15
    try clear hcz4_16
    try clear hcz4_2
    try clear hcz4_3
    try clear hcz4_4
    try clear hcz4_5
    try clear hcz4_6
    try clear hcz4_7
    try clear hcz4_8
    try clear hcz4_9
    try clear hfz4_0
    try clear hfz4_1
    try clear hfz4_10
    try clear hfz4_11
    try clear hfz4_12
    try clear hfz4_13
    try clear hfz4_14
    try clear hfz4_15
    try clear hfz4_16
    try clear hfz4_2
    try clear hfz4_3
    try clear hfz4_4
    try clear hfz4_5
    try clear hfz4_6
    try clear hfz4_7
    try clear hfz4_8
    try clear hfz4_9
    obtain ⟨x3_1, rfl, HA, HK1, BK233, HB⟩ := hrel
    cases gk with
    | zero => exact absurd HA.out (by simp [gharrylaw25_SayEvents.l0])
    | succ k1 =>
      have H := HA.out
      clear HA
      simp only [gharrylaw25_SayEvents.l0] at H
      by_cases c5 : x3_1 < (l0_11.length : Int)
      · rw [if_pos c5] at H
        have c5b0 : decide (x3_1 < (l0_11.length : Int)) = true := decide_eq_true c5
        clear c5
        by_cases c6 : 0 ≤ x3_1
        · rw [if_pos c6] at H
          have c6b0 : decide (0 ≤ x3_1) = true := decide_eq_true c6
          clear c6
          by_cases c7 : (((rd_T52 l0_11 x3_1).f0).size : Int) > 50
          · rw [if_pos c7] at H
            have c7b0 : decide (50 < (((rd_T52 l0_11 x3_1).f0).size : Int)) = true := decide_eq_true c7
            have c7b1 : decide (50 < ((rd_T52 l0_11 x3_1).f0).size) = true := decide_eq_true (by omega)
            clear c7
            replace H := Option.bind_eq_some_iff.mp H
            obtain ⟨t236, A80, H⟩ := H
            replace H : (some t236) = some r := H
            have A8 := Aside0.mk A80
            clear A80
            obtain rfl := Option.some.inj H
            have hcz9_0 : wr.cell? ⟨gb233, 0, none⟩ = some (.int .i64 a0_0) := (blk_cell BK233.out 0).trans rfl
            have hcz9_1 : wr.cell? ⟨gb233, 1, none⟩ = some (.int .i64 a0_1) := (blk_cell BK233.out 1).trans rfl
            have hcz9_2 : wr.cell? ⟨gb233, 2, none⟩ = some (.int .i64 a0_2) := (blk_cell BK233.out 2).trans rfl
            have hcz9_3 : wr.cell? ⟨gb233, 3, none⟩ = some (.int .i64 a0_3) := (blk_cell BK233.out 3).trans rfl
            have hcz9_4 : wr.cell? ⟨gb233, 4, none⟩ = some (.string a0_4) := (blk_cell BK233.out 4).trans rfl
            have hcz9_5 : wr.cell? ⟨gb233, 5, none⟩ = some (.string t234) := (blk_cell BK233.out 5).trans rfl
            have hcz9_6 : wr.cell? ⟨gb233, 6, none⟩ = some (.bool a0_6) := (blk_cell BK233.out 6).trans rfl
            have hcz9_7 : wr.cell? ⟨gb233, 7, none⟩ = some (.bool a0_7) := (blk_cell BK233.out 7).trans rfl
            have hcz9_8 : wr.cell? ⟨gb233, 8, none⟩ = some (.int .i64 a0_8) := (blk_cell BK233.out 8).trans rfl
            have hcz9_9 : wr.cell? ⟨gb233, 9, none⟩ = some (.bool a0_9) := (blk_cell BK233.out 9).trans rfl
            have hcz9_10 : wr.cell? ⟨gb233, 10, none⟩ = some (.int .i64 a0_10) := (blk_cell BK233.out 10).trans rfl
            have hcz9_11 : wr.cell? ⟨gb233, 11, none⟩ = some (.slice A0_11 l0_11.length c0_11) := (blk_cell BK233.out 11).trans rfl
            have hcz9_12 : wr.cell? ⟨gb233, 12, none⟩ = some (.int .i64 a0_12) := (blk_cell BK233.out 12).trans rfl
            have hcz9_13 : wr.cell? ⟨gb233, 13, none⟩ = some (.int .i64 a0_13) := (blk_cell BK233.out 13).trans rfl
            have hcz9_14 : wr.cell? ⟨gb233, 14, none⟩ = some (.int .i64 a0_14) := (blk_cell BK233.out 14).trans rfl
            have hcz9_15 : wr.cell? ⟨gb233, 15, none⟩ = some (.int .i64 a0_15) := (blk_cell BK233.out 15).trans rfl
            have hcz9_16 : wr.cell? ⟨gb233, 16, none⟩ = some (.int .i64 a0_16) := (blk_cell BK233.out 16).trans rfl
            have hfz9_0 := blk_frozen BK233.out 0
            have hfz9_1 := blk_frozen BK233.out 1
            have hfz9_2 := blk_frozen BK233.out 2
            have hfz9_3 := blk_frozen BK233.out 3
            have hfz9_4 := blk_frozen BK233.out 4
            have hfz9_5 := blk_frozen BK233.out 5
            have hfz9_6 := blk_frozen BK233.out 6
            have hfz9_7 := blk_frozen BK233.out 7
            have hfz9_8 := blk_frozen BK233.out 8
            have hfz9_9 := blk_frozen BK233.out 9
            have hfz9_10 := blk_frozen BK233.out 10
            have hfz9_11 := blk_frozen BK233.out 11
            have hfz9_12 := blk_frozen BK233.out 12
            have hfz9_13 := blk_frozen BK233.out 13
            have hfz9_14 := blk_frozen BK233.out 14
            have hfz9_15 := blk_frozen BK233.out 15
            have hfz9_16 := blk_frozen BK233.out 16
            have p235 : 0 ≤ (x3_1 : Int) := of_decide_eq_true (by first | (with_reducible assumption) | assumption)
            have q235 : x3_1 < (l0_11.length : Int) := of_decide_eq_true (by first | (with_reducible assumption) | assumption)
            obtain ⟨ad235, e235, hx235_0, hx235_1⟩ := at_T52 HR0_11.out x3_1 p235 q235
            cases e235
            replace hx235_0 := (HB.out.cell (World.block_lt_of_cell? w _ hx235_0)).trans hx235_0
            replace hx235_1 := (HB.out.cell (World.block_lt_of_cell? w _ hx235_1)).trans hx235_1
            replace p235 := eq_true p235
            replace q235 := eq_true q235
            go_wp2_with (first | ((with_reducible refine gate_callee (f := 16) rfl ?_); refine goesL_ (some 41) rfl rfl Tryd.func16 (by kernel_rfl) rfl #[] rfl (by (try simp only [List.map_toArray, List.map_cons, List.map_nil]); first | done | rfl | (simp only [List.length_drop, List.length_take]; rfl)) ?_; (with_reducible refine (gharrylaw25_awake.calls  t236 _ A8.out).mono ?_); rintro e w10 ⟨rfl, hb⟩; refine ⟨_, rfl, ?_⟩; have n0_ := Aside0.mk (blk_below (g := gb233) (o := .cells #[.int .i64 a0_0, .int .i64 a0_1, .int .i64 a0_2, .int .i64 a0_3, .string a0_4, .string t234, .bool a0_6, .bool a0_7, .int .i64 a0_8, .bool a0_9, .int .i64 a0_10, .slice (some ad235) l0_11.length c0_11, .int .i64 a0_12, .int .i64 a0_13, .int .i64 a0_14, .int .i64 a0_15, .int .i64 a0_16] 50 (0, 0)) (by (with_reducible repeat (first | refine blk_drewN ?_ _ | refine blk_drew ?_ | refine blk_alloc ?_ _)); exact BK233.out) hb); have n1_ := Aside0.mk (below_step (by repeat (first | (with_reducible first | exact HB.out | apply below_alloc | apply pw_below_drewN | apply below_drew1 | refine below_set ?_ GE233.out) | exact HB.out)) hb); clear BK233; clear HB; have BK233 := n0_; have HB := n1_; clear n0_ n1_; (try clear hb); (try clear hb2); (try clear hk); (try clear hi)))
            go_ret
            exact ⟨by first | rfl | (simp [errW_none, errW_some] <;> rfl) | (simp [*, errW_none, errW_some] <;> rfl), by repeat (first | (with_reducible first | exact HB.out | apply below_alloc | apply pw_below_drewN | apply below_drew1 | refine below_set ?_ GE233.out) | exact HB.out)⟩
          · rw [if_neg c7] at H
            have c7b0 : decide (50 < (((rd_T52 l0_11 x3_1).f0).size : Int)) = false := decide_eq_false c7
            have c7b1 : decide (50 < ((rd_T52 l0_11 x3_1).f0).size) = false := decide_eq_false (by omega)
            clear c7
            by_cases c11 : (((rd_T52 l0_11 x3_1).f1).size : Int) > 50
            · rw [if_pos c11] at H
              have c11b0 : decide (50 < (((rd_T52 l0_11 x3_1).f1).size : Int)) = true := decide_eq_true c11
              have c11b1 : decide (50 < ((rd_T52 l0_11 x3_1).f1).size) = true := decide_eq_true (by omega)
              clear c11
              replace H := Option.bind_eq_some_iff.mp H
              obtain ⟨t238, A120, H⟩ := H
              replace H : (some t238) = some r := H
              have A12 := Aside0.mk A120
              clear A120
              obtain rfl := Option.some.inj H
              have hcz13_0 : wr.cell? ⟨gb233, 0, none⟩ = some (.int .i64 a0_0) := (blk_cell BK233.out 0).trans rfl
              have hcz13_1 : wr.cell? ⟨gb233, 1, none⟩ = some (.int .i64 a0_1) := (blk_cell BK233.out 1).trans rfl
              have hcz13_2 : wr.cell? ⟨gb233, 2, none⟩ = some (.int .i64 a0_2) := (blk_cell BK233.out 2).trans rfl
              have hcz13_3 : wr.cell? ⟨gb233, 3, none⟩ = some (.int .i64 a0_3) := (blk_cell BK233.out 3).trans rfl
              have hcz13_4 : wr.cell? ⟨gb233, 4, none⟩ = some (.string a0_4) := (blk_cell BK233.out 4).trans rfl
              have hcz13_5 : wr.cell? ⟨gb233, 5, none⟩ = some (.string t234) := (blk_cell BK233.out 5).trans rfl
              have hcz13_6 : wr.cell? ⟨gb233, 6, none⟩ = some (.bool a0_6) := (blk_cell BK233.out 6).trans rfl
              have hcz13_7 : wr.cell? ⟨gb233, 7, none⟩ = some (.bool a0_7) := (blk_cell BK233.out 7).trans rfl
              have hcz13_8 : wr.cell? ⟨gb233, 8, none⟩ = some (.int .i64 a0_8) := (blk_cell BK233.out 8).trans rfl
              have hcz13_9 : wr.cell? ⟨gb233, 9, none⟩ = some (.bool a0_9) := (blk_cell BK233.out 9).trans rfl
              have hcz13_10 : wr.cell? ⟨gb233, 10, none⟩ = some (.int .i64 a0_10) := (blk_cell BK233.out 10).trans rfl
              have hcz13_11 : wr.cell? ⟨gb233, 11, none⟩ = some (.slice A0_11 l0_11.length c0_11) := (blk_cell BK233.out 11).trans rfl
              have hcz13_12 : wr.cell? ⟨gb233, 12, none⟩ = some (.int .i64 a0_12) := (blk_cell BK233.out 12).trans rfl
              have hcz13_13 : wr.cell? ⟨gb233, 13, none⟩ = some (.int .i64 a0_13) := (blk_cell BK233.out 13).trans rfl
              have hcz13_14 : wr.cell? ⟨gb233, 14, none⟩ = some (.int .i64 a0_14) := (blk_cell BK233.out 14).trans rfl
              have hcz13_15 : wr.cell? ⟨gb233, 15, none⟩ = some (.int .i64 a0_15) := (blk_cell BK233.out 15).trans rfl
              have hcz13_16 : wr.cell? ⟨gb233, 16, none⟩ = some (.int .i64 a0_16) := (blk_cell BK233.out 16).trans rfl
              have hfz13_0 := blk_frozen BK233.out 0
              have hfz13_1 := blk_frozen BK233.out 1
              have hfz13_2 := blk_frozen BK233.out 2
              have hfz13_3 := blk_frozen BK233.out 3
              have hfz13_4 := blk_frozen BK233.out 4
              have hfz13_5 := blk_frozen BK233.out 5
              have hfz13_6 := blk_frozen BK233.out 6
              have hfz13_7 := blk_frozen BK233.out 7
              have hfz13_8 := blk_frozen BK233.out 8
              have hfz13_9 := blk_frozen BK233.out 9
              have hfz13_10 := blk_frozen BK233.out 10
              have hfz13_11 := blk_frozen BK233.out 11
              have hfz13_12 := blk_frozen BK233.out 12
              have hfz13_13 := blk_frozen BK233.out 13
              have hfz13_14 := blk_frozen BK233.out 14
              have hfz13_15 := blk_frozen BK233.out 15
              have hfz13_16 := blk_frozen BK233.out 16
              have p235 : 0 ≤ (x3_1 : Int) := of_decide_eq_true (by first | (with_reducible assumption) | assumption)
              have q235 : x3_1 < (l0_11.length : Int) := of_decide_eq_true (by first | (with_reducible assumption) | assumption)
              obtain ⟨ad235, e235, hx235_0, hx235_1⟩ := at_T52 HR0_11.out x3_1 p235 q235
              cases e235
              replace hx235_0 := (HB.out.cell (World.block_lt_of_cell? w _ hx235_0)).trans hx235_0
              replace hx235_1 := (HB.out.cell (World.block_lt_of_cell? w _ hx235_1)).trans hx235_1
              replace p235 := eq_true p235
              replace q235 := eq_true q235
              have p237 : 0 ≤ (x3_1 : Int) := of_decide_eq_true (by first | (with_reducible assumption) | assumption)
              have q237 : x3_1 < (l0_11.length : Int) := of_decide_eq_true (by first | (with_reducible assumption) | assumption)
              obtain ⟨ad237, e237, hx237_0, hx237_1⟩ := at_T52 HR0_11.out x3_1 p237 q237
              obtain rfl : ad235 = ad237 := (by injection e237)
              replace hx237_0 := (HB.out.cell (World.block_lt_of_cell? w _ hx237_0)).trans hx237_0
              replace hx237_1 := (HB.out.cell (World.block_lt_of_cell? w _ hx237_1)).trans hx237_1
              replace p237 := eq_true p237
              replace q237 := eq_true q237
              go_wp2_with (first | ((with_reducible refine gate_callee (f := 16) rfl ?_); refine goesL_ (some 41) rfl rfl Tryd.func16 (by kernel_rfl) rfl #[] rfl (by (try simp only [List.map_toArray, List.map_cons, List.map_nil]); first | done | rfl | (simp only [List.length_drop, List.length_take]; rfl)) ?_; (with_reducible refine (gharrylaw25_awake.calls  t238 _ A12.out).mono ?_); rintro e w14 ⟨rfl, hb⟩; refine ⟨_, rfl, ?_⟩; have n0_ := Aside0.mk (blk_below (g := gb233) (o := .cells #[.int .i64 a0_0, .int .i64 a0_1, .int .i64 a0_2, .int .i64 a0_3, .string a0_4, .string t234, .bool a0_6, .bool a0_7, .int .i64 a0_8, .bool a0_9, .int .i64 a0_10, .slice (some ad235) l0_11.length c0_11, .int .i64 a0_12, .int .i64 a0_13, .int .i64 a0_14, .int .i64 a0_15, .int .i64 a0_16] 50 (0, 0)) (by (with_reducible repeat (first | refine blk_drewN ?_ _ | refine blk_drew ?_ | refine blk_alloc ?_ _)); exact BK233.out) hb); have n1_ := Aside0.mk (below_step (by repeat (first | (with_reducible first | exact HB.out | apply below_alloc | apply pw_below_drewN | apply below_drew1 | refine below_set ?_ GE233.out) | exact HB.out)) hb); clear BK233; clear HB; have BK233 := n0_; have HB := n1_; clear n0_ n1_; (try clear hb); (try clear hb2); (try clear hk); (try clear hi)))
              go_ret
              exact ⟨by first | rfl | (simp [errW_none, errW_some] <;> rfl) | (simp [*, errW_none, errW_some] <;> rfl), by repeat (first | (with_reducible first | exact HB.out | apply below_alloc | apply pw_below_drewN | apply below_drew1 | refine below_set ?_ GE233.out) | exact HB.out)⟩
            · rw [if_neg c11] at H
              have c11b0 : decide (50 < (((rd_T52 l0_11 x3_1).f1).size : Int)) = false := decide_eq_false c11
              have c11b1 : decide (50 < ((rd_T52 l0_11 x3_1).f1).size) = false := decide_eq_false (by omega)
              clear c11
              have H' := Aside0.mk H
              clear H
              have hcz15_0 : wr.cell? ⟨gb233, 0, none⟩ = some (.int .i64 a0_0) := (blk_cell BK233.out 0).trans rfl
              have hcz15_1 : wr.cell? ⟨gb233, 1, none⟩ = some (.int .i64 a0_1) := (blk_cell BK233.out 1).trans rfl
              have hcz15_2 : wr.cell? ⟨gb233, 2, none⟩ = some (.int .i64 a0_2) := (blk_cell BK233.out 2).trans rfl
              have hcz15_3 : wr.cell? ⟨gb233, 3, none⟩ = some (.int .i64 a0_3) := (blk_cell BK233.out 3).trans rfl
              have hcz15_4 : wr.cell? ⟨gb233, 4, none⟩ = some (.string a0_4) := (blk_cell BK233.out 4).trans rfl
              have hcz15_5 : wr.cell? ⟨gb233, 5, none⟩ = some (.string t234) := (blk_cell BK233.out 5).trans rfl
              have hcz15_6 : wr.cell? ⟨gb233, 6, none⟩ = some (.bool a0_6) := (blk_cell BK233.out 6).trans rfl
              have hcz15_7 : wr.cell? ⟨gb233, 7, none⟩ = some (.bool a0_7) := (blk_cell BK233.out 7).trans rfl
              have hcz15_8 : wr.cell? ⟨gb233, 8, none⟩ = some (.int .i64 a0_8) := (blk_cell BK233.out 8).trans rfl
              have hcz15_9 : wr.cell? ⟨gb233, 9, none⟩ = some (.bool a0_9) := (blk_cell BK233.out 9).trans rfl
              have hcz15_10 : wr.cell? ⟨gb233, 10, none⟩ = some (.int .i64 a0_10) := (blk_cell BK233.out 10).trans rfl
              have hcz15_11 : wr.cell? ⟨gb233, 11, none⟩ = some (.slice A0_11 l0_11.length c0_11) := (blk_cell BK233.out 11).trans rfl
              have hcz15_12 : wr.cell? ⟨gb233, 12, none⟩ = some (.int .i64 a0_12) := (blk_cell BK233.out 12).trans rfl
              have hcz15_13 : wr.cell? ⟨gb233, 13, none⟩ = some (.int .i64 a0_13) := (blk_cell BK233.out 13).trans rfl
              have hcz15_14 : wr.cell? ⟨gb233, 14, none⟩ = some (.int .i64 a0_14) := (blk_cell BK233.out 14).trans rfl
              have hcz15_15 : wr.cell? ⟨gb233, 15, none⟩ = some (.int .i64 a0_15) := (blk_cell BK233.out 15).trans rfl
              have hcz15_16 : wr.cell? ⟨gb233, 16, none⟩ = some (.int .i64 a0_16) := (blk_cell BK233.out 16).trans rfl
              have hfz15_0 := blk_frozen BK233.out 0
              have hfz15_1 := blk_frozen BK233.out 1
              have hfz15_2 := blk_frozen BK233.out 2
              have hfz15_3 := blk_frozen BK233.out 3
              have hfz15_4 := blk_frozen BK233.out 4
              have hfz15_5 := blk_frozen BK233.out 5
              have hfz15_6 := blk_frozen BK233.out 6
              have hfz15_7 := blk_frozen BK233.out 7
              have hfz15_8 := blk_frozen BK233.out 8
              have hfz15_9 := blk_frozen BK233.out 9
              have hfz15_10 := blk_frozen BK233.out 10
              have hfz15_11 := blk_frozen BK233.out 11
              have hfz15_12 := blk_frozen BK233.out 12
              have hfz15_13 := blk_frozen BK233.out 13
              have hfz15_14 := blk_frozen BK233.out 14
              have hfz15_15 := blk_frozen BK233.out 15
              have hfz15_16 := blk_frozen BK233.out 16
              have p235 : 0 ≤ (x3_1 : Int) := of_decide_eq_true (by first | (with_reducible assumption) | assumption)
              have q235 : x3_1 < (l0_11.length : Int) := of_decide_eq_true (by first | (with_reducible assumption) | assumption)
              obtain ⟨ad235, e235, hx235_0, hx235_1⟩ := at_T52 HR0_11.out x3_1 p235 q235
              cases e235
              replace hx235_0 := (HB.out.cell (World.block_lt_of_cell? w _ hx235_0)).trans hx235_0
              replace hx235_1 := (HB.out.cell (World.block_lt_of_cell? w _ hx235_1)).trans hx235_1
              replace p235 := eq_true p235
              replace q235 := eq_true q235
              have p237 : 0 ≤ (x3_1 : Int) := of_decide_eq_true (by first | (with_reducible assumption) | assumption)
              have q237 : x3_1 < (l0_11.length : Int) := of_decide_eq_true (by first | (with_reducible assumption) | assumption)
              obtain ⟨ad237, e237, hx237_0, hx237_1⟩ := at_T52 HR0_11.out x3_1 p237 q237
              obtain rfl : ad235 = ad237 := (by injection e237)
              replace hx237_0 := (HB.out.cell (World.block_lt_of_cell? w _ hx237_0)).trans hx237_0
              replace hx237_1 := (HB.out.cell (World.block_lt_of_cell? w _ hx237_1)).trans hx237_1
              replace p237 := eq_true p237
              replace q237 := eq_true q237
              go_wp2
              go_roundg k1
              case measure => have := HK1.out; omega
              case rel => exact ⟨(wrap64 (x3_1 + 1)), (by first | rfl | (simp; done) | (simp [*]; done)), H', ⟨by have := HK1.out; omega⟩, ⟨by (with_reducible repeat (first | refine blk_drewN ?_ _ | refine blk_drew ?_ | refine blk_alloc ?_ _)); exact BK233.out⟩, ⟨by repeat (first | (with_reducible first | exact HB.out | apply below_alloc | apply pw_below_drewN | apply below_drew1 | refine below_set ?_ GE233.out) | exact HB.out)⟩⟩
        · rw [if_neg c6] at H
          exact absurd H (by simp)
      · rw [if_neg c5] at H
        have c5b0 : decide (x3_1 < (l0_11.length : Int)) = false := decide_eq_false c5
        clear c5
        replace H := Option.bind_eq_some_iff.mp H
        obtain ⟨t239, A160, H⟩ := H
        replace H : ((gharrylaw25_event.f k1 a0_0 a0_1 a0_2 a0_3 a0_4 t234 a0_6 a0_7 a0_8 a0_9 a0_10 l0_11 a0_12 a0_13 a0_14 a0_15 a0_16).bind fun t240 => (if t239.toList = t240.toList then ((gharrylaw25_awake.f).bind fun t241 => (some t241)) else (some false))) = some r := H
        have A16 := Aside0.mk A160
        clear A160
        replace H := Option.bind_eq_some_iff.mp H
        obtain ⟨t240, A170, H⟩ := H
        replace H : (if t239.toList = t240.toList then ((gharrylaw25_awake.f).bind fun t241 => (some t241)) else (some false)) = some r := H
        have A17 := Aside0.mk A170
        clear A170
        by_cases c18 : t239.toList = t240.toList
        · rw [if_pos c18] at H
          have c18b0 : (t239.toList == t240.toList) = true := beq_iff_eq.mpr c18
          have c18b1 : (t239.toList != t240.toList) = false := bne_eq_false_iff_eq.mpr c18
          clear c18
          replace H := Option.bind_eq_some_iff.mp H
          obtain ⟨t241, A190, H⟩ := H
          replace H : (some t241) = some r := H
          have A19 := Aside0.mk A190
          clear A190
          obtain rfl := Option.some.inj H
          have hcz20_0 : wr.cell? ⟨gb233, 0, none⟩ = some (.int .i64 a0_0) := (blk_cell BK233.out 0).trans rfl
          have hcz20_1 : wr.cell? ⟨gb233, 1, none⟩ = some (.int .i64 a0_1) := (blk_cell BK233.out 1).trans rfl
          have hcz20_2 : wr.cell? ⟨gb233, 2, none⟩ = some (.int .i64 a0_2) := (blk_cell BK233.out 2).trans rfl
          have hcz20_3 : wr.cell? ⟨gb233, 3, none⟩ = some (.int .i64 a0_3) := (blk_cell BK233.out 3).trans rfl
          have hcz20_4 : wr.cell? ⟨gb233, 4, none⟩ = some (.string a0_4) := (blk_cell BK233.out 4).trans rfl
          have hcz20_5 : wr.cell? ⟨gb233, 5, none⟩ = some (.string t234) := (blk_cell BK233.out 5).trans rfl
          have hcz20_6 : wr.cell? ⟨gb233, 6, none⟩ = some (.bool a0_6) := (blk_cell BK233.out 6).trans rfl
          have hcz20_7 : wr.cell? ⟨gb233, 7, none⟩ = some (.bool a0_7) := (blk_cell BK233.out 7).trans rfl
          have hcz20_8 : wr.cell? ⟨gb233, 8, none⟩ = some (.int .i64 a0_8) := (blk_cell BK233.out 8).trans rfl
          have hcz20_9 : wr.cell? ⟨gb233, 9, none⟩ = some (.bool a0_9) := (blk_cell BK233.out 9).trans rfl
          have hcz20_10 : wr.cell? ⟨gb233, 10, none⟩ = some (.int .i64 a0_10) := (blk_cell BK233.out 10).trans rfl
          have hcz20_11 : wr.cell? ⟨gb233, 11, none⟩ = some (.slice A0_11 l0_11.length c0_11) := (blk_cell BK233.out 11).trans rfl
          have hcz20_12 : wr.cell? ⟨gb233, 12, none⟩ = some (.int .i64 a0_12) := (blk_cell BK233.out 12).trans rfl
          have hcz20_13 : wr.cell? ⟨gb233, 13, none⟩ = some (.int .i64 a0_13) := (blk_cell BK233.out 13).trans rfl
          have hcz20_14 : wr.cell? ⟨gb233, 14, none⟩ = some (.int .i64 a0_14) := (blk_cell BK233.out 14).trans rfl
          have hcz20_15 : wr.cell? ⟨gb233, 15, none⟩ = some (.int .i64 a0_15) := (blk_cell BK233.out 15).trans rfl
          have hcz20_16 : wr.cell? ⟨gb233, 16, none⟩ = some (.int .i64 a0_16) := (blk_cell BK233.out 16).trans rfl
          have hfz20_0 := blk_frozen BK233.out 0
          have hfz20_1 := blk_frozen BK233.out 1
          have hfz20_2 := blk_frozen BK233.out 2
          have hfz20_3 := blk_frozen BK233.out 3
          have hfz20_4 := blk_frozen BK233.out 4
          have hfz20_5 := blk_frozen BK233.out 5
          have hfz20_6 := blk_frozen BK233.out 6
          have hfz20_7 := blk_frozen BK233.out 7
          have hfz20_8 := blk_frozen BK233.out 8
          have hfz20_9 := blk_frozen BK233.out 9
          have hfz20_10 := blk_frozen BK233.out 10
          have hfz20_11 := blk_frozen BK233.out 11
          have hfz20_12 := blk_frozen BK233.out 12
          have hfz20_13 := blk_frozen BK233.out 13
          have hfz20_14 := blk_frozen BK233.out 14
          have hfz20_15 := blk_frozen BK233.out 15
          have hfz20_16 := blk_frozen BK233.out 16
          try go_wp2
          have n0_ := Aside0.mk (blk_drew BK233.out)
          have n1_ := Aside0.mk (below_drew1 HB.out)
          clear BK233
          clear HB
          have BK233 := n0_
          have HB := n1_
          clear n0_ n1_
          refine start_ (n := 9) (S := fun w' => w'.cell? ⟨gb233, 0, none⟩ = some (.int .i64 a0_0) ∧ w'.cell? ⟨gb233, 1, none⟩ = some (.int .i64 a0_1) ∧ w'.cell? ⟨gb233, 2, none⟩ = some (.int .i64 a0_2) ∧ w'.cell? ⟨gb233, 3, none⟩ = some (.int .i64 a0_3) ∧ w'.cell? ⟨gb233, 4, none⟩ = some (.string a0_4) ∧ w'.cell? ⟨gb233, 5, none⟩ = some (.string t234) ∧ w'.cell? ⟨gb233, 6, none⟩ = some (.bool a0_6) ∧ w'.cell? ⟨gb233, 7, none⟩ = some (.bool a0_7) ∧ w'.cell? ⟨gb233, 8, none⟩ = some (.int .i64 a0_8) ∧ w'.cell? ⟨gb233, 9, none⟩ = some (.bool a0_9) ∧ w'.cell? ⟨gb233, 10, none⟩ = some (.int .i64 a0_10) ∧ w'.cell? ⟨gb233, 11, none⟩ = some (.slice A0_11 l0_11.length c0_11) ∧ w'.cell? ⟨gb233, 12, none⟩ = some (.int .i64 a0_12) ∧ w'.cell? ⟨gb233, 13, none⟩ = some (.int .i64 a0_13) ∧ w'.cell? ⟨gb233, 14, none⟩ = some (.int .i64 a0_14) ∧ w'.cell? ⟨gb233, 15, none⟩ = some (.int .i64 a0_15) ∧ w'.cell? ⟨gb233, 16, none⟩ = some (.int .i64 a0_16)) (ds := []) #[false, false, false, false, false, false, false, false, false] (by kernel_rfl) rfl rfl ⟨(blk_cell BK233.out 0).trans rfl, (blk_cell BK233.out 1).trans rfl, (blk_cell BK233.out 2).trans rfl, (blk_cell BK233.out 3).trans rfl, (blk_cell BK233.out 4).trans rfl, (blk_cell BK233.out 5).trans rfl, (blk_cell BK233.out 6).trans rfl, (blk_cell BK233.out 7).trans rfl, (blk_cell BK233.out 8).trans rfl, (blk_cell BK233.out 9).trans rfl, (blk_cell BK233.out 10).trans rfl, (blk_cell BK233.out 11).trans rfl, (blk_cell BK233.out 12).trans rfl, (blk_cell BK233.out 13).trans rfl, (blk_cell BK233.out 14).trans rfl, (blk_cell BK233.out 15).trans rfl, (blk_cell BK233.out 16).trans rfl⟩ (fun hHeld => ?_); refine with_tabW gharrylaw25_SayEvents.tab9 gharrylaw25_SayEvents.bits9 (fun HT_ HW_ => ?_)
          generalize wr.drew = w21 at BK233 HB hHeld ⊢
          refine take_ (i := 0) (N := some 42) (v := ?_) (a' := ?_) #[true, false, false, false, false, false, false, false, false] rfl rfl (take_ofW HT_.out HW_.out (by kernel_rfl)) (fun _ _ _ h => h) (Or.inl ⟨by rfl, ?_⟩) hHeld ?_ ?_
          rotate_left
          · rintro w' ⟨s0, s1, s2, s3, s4, s5, s6, s7, s8, s9, s10, s11, s12, s13, s14, s15, s16⟩
            go_simp
            with_reducible rfl
          rotate_left
          · simp only [Act.put, List.setIfInBounds_toArray, List.set_cons_zero, List.set_cons_succ, i64_w, i32_w]
            rfl
          refine take_ (i := 2) (N := some 44) (v := ?_) (a' := ?_) #[true, false, true, false, false, false, false, false, false] rfl rfl (take_ofW HT_.out HW_.out (by kernel_rfl)) (fun _ _ _ h => h) (Or.inl ⟨by rfl, ?_⟩) hHeld ?_ ?_
          rotate_left
          · rintro w' ⟨s0, s1, s2, s3, s4, s5, s6, s7, s8, s9, s10, s11, s12, s13, s14, s15, s16⟩
            go_simp
            with_reducible rfl
          rotate_left
          · simp only [Act.put, List.setIfInBounds_toArray, List.set_cons_zero, List.set_cons_succ, i64_w, i32_w]
            rfl
          refine one_ (i := 1) (N := some 43) #[true, true, true, false, false, false, false, false, false] rfl rfl (one_of HT_.out (by kernel_rfl)) (by decide) (fun K hK => ?_)
          refine goes_ Tryd.func27 (by kernel_rfl) rfl #[.agg #[.int .i64 a0_0, .int .i64 a0_1, .int .i64 a0_2, .int .i64 a0_3, .string a0_4, .string t234, .bool a0_6, .bool a0_7, .int .i64 a0_8, .bool a0_9, .int .i64 a0_10, .slice A0_11 l0_11.length c0_11, .int .i64 a0_12, .int .i64 a0_13, .int .i64 a0_14, .int .i64 a0_15, .int .i64 a0_16]] (by rfl) rfl rfl (by (try simp only [List.map_toArray, List.map_cons, List.map_nil]); first | done | rfl | (simp only [List.length_drop, List.length_take]; rfl)) ?_
          with_reducible refine (say_Event.calls k1 a0_0 a0_1 a0_2 a0_3 a0_4 t234 a0_6 a0_7 a0_8 a0_9 a0_10 _ _ l0_11 a0_12 a0_13 a0_14 a0_15 a0_16 t239 _ ?side1 ?side2 A16.out).mono ?_
          (case side1 => repeat (first | exact (Kd.C_below HR0_11.out HB.out) | (with_reducible refine Kd.C_alloc ?_ _) | (with_reducible refine Kd.C_drewN ?_ _) | (with_reducible refine Kd.C_drew ?_)))
          (case side2 => exact HC0_11.out)
          rintro e w22 ⟨rfl, hb⟩
          refine ⟨_, rfl, ?_⟩
          have n0_ := Aside0.mk (blk_below (g := gb233) (o := .cells #[.int .i64 a0_0, .int .i64 a0_1, .int .i64 a0_2, .int .i64 a0_3, .string a0_4, .string t234, .bool a0_6, .bool a0_7, .int .i64 a0_8, .bool a0_9, .int .i64 a0_10, .slice A0_11 l0_11.length c0_11, .int .i64 a0_12, .int .i64 a0_13, .int .i64 a0_14, .int .i64 a0_15, .int .i64 a0_16] 50 (0, 0)) (by (with_reducible repeat (first | refine blk_drewN ?_ _ | refine blk_drew ?_ | refine blk_alloc ?_ _)); exact BK233.out) hb)
          have n1_ := Aside0.mk (below_step (by repeat (first | (with_reducible first | exact HB.out | apply below_alloc | apply pw_below_drewN | apply below_drew1 | refine below_set ?_ GE233.out) | exact HB.out)) hb)
          clear BK233
          clear HB
          have BK233 := n0_
          have HB := n1_
          clear n0_ n1_
          (try clear hb)
          (try clear hb2)
          (try clear hk)
          (try clear hi)
          refine hK.out _ _ ⟨(blk_cell BK233.out 0).trans rfl, (blk_cell BK233.out 1).trans rfl, (blk_cell BK233.out 2).trans rfl, (blk_cell BK233.out 3).trans rfl, (blk_cell BK233.out 4).trans rfl, (blk_cell BK233.out 5).trans rfl, (blk_cell BK233.out 6).trans rfl, (blk_cell BK233.out 7).trans rfl, (blk_cell BK233.out 8).trans rfl, (blk_cell BK233.out 9).trans rfl, (blk_cell BK233.out 10).trans rfl, (blk_cell BK233.out 11).trans rfl, (blk_cell BK233.out 12).trans rfl, (blk_cell BK233.out 13).trans rfl, (blk_cell BK233.out 14).trans rfl, (blk_cell BK233.out 15).trans rfl, (blk_cell BK233.out 16).trans rfl⟩ (fun hHeld => ?_)
          clear hK K
          refine norm_ (a' := ?_) ?_ ?_
          rotate_left
          · show Act.put _ (some 43) _ = _
            simp only [Act.put, List.setIfInBounds_toArray, List.set_cons_zero, List.set_cons_succ, i64_w, i32_w]
            rfl
          refine one_ (i := 3) (N := some 45) #[true, true, true, true, false, false, false, false, false] rfl rfl (one_of HT_.out (by kernel_rfl)) (by decide) (fun K hK => ?_)
          refine goes_ Tryd.func28 (by kernel_rfl) rfl #[.agg #[.int .i64 a0_0, .int .i64 a0_1, .int .i64 a0_2, .int .i64 a0_3, .string a0_4, .string t234, .bool a0_6, .bool a0_7, .int .i64 a0_8, .bool a0_9, .int .i64 a0_10, .slice A0_11 l0_11.length c0_11, .int .i64 a0_12, .int .i64 a0_13, .int .i64 a0_14, .int .i64 a0_15, .int .i64 a0_16]] (by rfl) rfl rfl (by (try simp only [List.map_toArray, List.map_cons, List.map_nil]); first | done | rfl | (simp only [List.length_drop, List.length_take]; rfl)) ?_
          with_reducible refine (gharrylaw25_event.calls k1 a0_0 a0_1 a0_2 a0_3 a0_4 t234 a0_6 a0_7 a0_8 a0_9 a0_10 _ _ l0_11 a0_12 a0_13 a0_14 a0_15 a0_16 t240 _ ?side1 ?side2 A17.out).mono ?_
          (case side1 => repeat (first | exact (Kd.C_below HR0_11.out HB.out) | (with_reducible refine Kd.C_alloc ?_ _) | (with_reducible refine Kd.C_drewN ?_ _) | (with_reducible refine Kd.C_drew ?_)))
          (case side2 => exact HC0_11.out)
          rintro e w23 ⟨rfl, hb⟩
          refine ⟨_, rfl, ?_⟩
          have n0_ := Aside0.mk (blk_below (g := gb233) (o := .cells #[.int .i64 a0_0, .int .i64 a0_1, .int .i64 a0_2, .int .i64 a0_3, .string a0_4, .string t234, .bool a0_6, .bool a0_7, .int .i64 a0_8, .bool a0_9, .int .i64 a0_10, .slice A0_11 l0_11.length c0_11, .int .i64 a0_12, .int .i64 a0_13, .int .i64 a0_14, .int .i64 a0_15, .int .i64 a0_16] 50 (0, 0)) (by (with_reducible repeat (first | refine blk_drewN ?_ _ | refine blk_drew ?_ | refine blk_alloc ?_ _)); exact BK233.out) hb)
          have n1_ := Aside0.mk (below_step (by repeat (first | (with_reducible first | exact HB.out | apply below_alloc | apply pw_below_drewN | apply below_drew1 | refine below_set ?_ GE233.out) | exact HB.out)) hb)
          clear BK233
          clear HB
          have BK233 := n0_
          have HB := n1_
          clear n0_ n1_
          (try clear hb)
          (try clear hb2)
          (try clear hk)
          (try clear hi)
          refine hK.out _ _ ⟨(blk_cell BK233.out 0).trans rfl, (blk_cell BK233.out 1).trans rfl, (blk_cell BK233.out 2).trans rfl, (blk_cell BK233.out 3).trans rfl, (blk_cell BK233.out 4).trans rfl, (blk_cell BK233.out 5).trans rfl, (blk_cell BK233.out 6).trans rfl, (blk_cell BK233.out 7).trans rfl, (blk_cell BK233.out 8).trans rfl, (blk_cell BK233.out 9).trans rfl, (blk_cell BK233.out 10).trans rfl, (blk_cell BK233.out 11).trans rfl, (blk_cell BK233.out 12).trans rfl, (blk_cell BK233.out 13).trans rfl, (blk_cell BK233.out 14).trans rfl, (blk_cell BK233.out 15).trans rfl, (blk_cell BK233.out 16).trans rfl⟩ (fun hHeld => ?_)
          clear hK K
          refine norm_ (a' := ?_) ?_ ?_
          rotate_left
          · show Act.put _ (some 45) _ = _
            simp only [Act.put, List.setIfInBounds_toArray, List.set_cons_zero, List.set_cons_succ, i64_w, i32_w]
            rfl
          refine pure_ (i := 4) (N := some 46) (v := ?_) (a' := ?_) #[true, true, true, true, true, false, false, false, false] rfl rfl (any_of HT_.out (by kernel_rfl)) (fun _ _ _ h => h) (Or.inl ⟨by rfl, ?_⟩) ?_ ?_
          rotate_left
          · intro w'
            go_simp
            with_reducible rfl
          rotate_left
          · simp only [Act.put, List.setIfInBounds_toArray, List.set_cons_zero, List.set_cons_succ, i64_w, i32_w]
            rfl
          refine pure_ (i := 5) (N := some 47) (v := ?_) (a' := ?_) #[true, true, true, true, true, true, false, false, false] rfl rfl (any_of HT_.out (by kernel_rfl)) (fun _ _ _ h => h) (Or.inl ⟨by rfl, ?_⟩) ?_ ?_
          rotate_left
          · intro w'
            go_simp
            with_reducible rfl
          rotate_left
          · simp only [Act.put, List.setIfInBounds_toArray, List.set_cons_zero, List.set_cons_succ, i64_w, i32_w]
            rfl
          refine one_ (i := 6) (N := some 48) #[true, true, true, true, true, true, true, false, false] rfl rfl (one_of HT_.out (by kernel_rfl)) (by decide) (fun K hK => ?_)
          refine goes_ Tryd.func16 (by kernel_rfl) rfl #[] (by rfl) rfl rfl (by (try simp only [List.map_toArray, List.map_cons, List.map_nil]); first | done | rfl | (simp only [List.length_drop, List.length_take]; rfl)) ?_
          with_reducible refine (gharrylaw25_awake.calls  t241 _ A19.out).mono ?_
          rintro e w24 ⟨rfl, hb⟩
          refine ⟨_, rfl, ?_⟩
          have n0_ := Aside0.mk (blk_below (g := gb233) (o := .cells #[.int .i64 a0_0, .int .i64 a0_1, .int .i64 a0_2, .int .i64 a0_3, .string a0_4, .string t234, .bool a0_6, .bool a0_7, .int .i64 a0_8, .bool a0_9, .int .i64 a0_10, .slice A0_11 l0_11.length c0_11, .int .i64 a0_12, .int .i64 a0_13, .int .i64 a0_14, .int .i64 a0_15, .int .i64 a0_16] 50 (0, 0)) (by (with_reducible repeat (first | refine blk_drewN ?_ _ | refine blk_drew ?_ | refine blk_alloc ?_ _)); exact BK233.out) hb)
          have n1_ := Aside0.mk (below_step (by repeat (first | (with_reducible first | exact HB.out | apply below_alloc | apply pw_below_drewN | apply below_drew1 | refine below_set ?_ GE233.out) | exact HB.out)) hb)
          clear BK233
          clear HB
          have BK233 := n0_
          have HB := n1_
          clear n0_ n1_
          (try clear hb)
          (try clear hb2)
          (try clear hk)
          (try clear hi)
          refine hK.out _ _ ⟨(blk_cell BK233.out 0).trans rfl, (blk_cell BK233.out 1).trans rfl, (blk_cell BK233.out 2).trans rfl, (blk_cell BK233.out 3).trans rfl, (blk_cell BK233.out 4).trans rfl, (blk_cell BK233.out 5).trans rfl, (blk_cell BK233.out 6).trans rfl, (blk_cell BK233.out 7).trans rfl, (blk_cell BK233.out 8).trans rfl, (blk_cell BK233.out 9).trans rfl, (blk_cell BK233.out 10).trans rfl, (blk_cell BK233.out 11).trans rfl, (blk_cell BK233.out 12).trans rfl, (blk_cell BK233.out 13).trans rfl, (blk_cell BK233.out 14).trans rfl, (blk_cell BK233.out 15).trans rfl, (blk_cell BK233.out 16).trans rfl⟩ (fun hHeld => ?_)
          clear hK K
          refine norm_ (a' := ?_) ?_ ?_
          rotate_left
          · show Act.put _ (some 48) _ = _
            simp only [Act.put, List.setIfInBounds_toArray, List.set_cons_zero, List.set_cons_succ, i64_w, i32_w]
            rfl
          refine pure_ (i := 7) (N := some 49) (v := ?_) (a' := ?_) #[true, true, true, true, true, true, true, true, false] rfl rfl (any_of HT_.out (by kernel_rfl)) (fun _ _ _ h => h) (Or.inl ⟨by rfl, ?_⟩) ?_ ?_
          rotate_left
          · intro w'
            go_simp
            with_reducible rfl
          rotate_left
          · simp only [Act.put, List.setIfInBounds_toArray, List.set_cons_zero, List.set_cons_succ, i64_w, i32_w]
            rfl
          refine pure_ (i := 8) (N := some 2) (v := ?_) (a' := ?_) #[true, true, true, true, true, true, true, true, true] rfl rfl (any_of HT_.out (by kernel_rfl)) (fun _ _ _ h => h) (Or.inl ⟨by rfl, ?_⟩) ?_ ?_
          rotate_left
          · intro w'
            go_simp
            with_reducible rfl
          rotate_left
          · simp only [Act.put, List.setIfInBounds_toArray, List.set_cons_zero, List.set_cons_succ, i64_w, i32_w]
            rfl
          refine done_ (done_of HT_.out (by kernel_rfl)) ?_
          try go_wp2
          go_ret
          exact ⟨by first | rfl | (simp [errW_none, errW_some] <;> rfl) | (simp [*, errW_none, errW_some] <;> rfl), by repeat (first | (with_reducible first | exact HB.out | apply below_alloc | apply pw_below_drewN | apply below_drew1 | refine below_set ?_ GE233.out) | exact HB.out)⟩
        · rw [if_neg c18] at H
          have c18b0 : (t239.toList == t240.toList) = false := beq_eq_false_iff_ne.mpr c18
          have c18b1 : (t239.toList != t240.toList) = true := bne_iff_ne.mpr c18
          obtain rfl := Option.some.inj H
          have hcz25_0 : wr.cell? ⟨gb233, 0, none⟩ = some (.int .i64 a0_0) := (blk_cell BK233.out 0).trans rfl
          have hcz25_1 : wr.cell? ⟨gb233, 1, none⟩ = some (.int .i64 a0_1) := (blk_cell BK233.out 1).trans rfl
          have hcz25_2 : wr.cell? ⟨gb233, 2, none⟩ = some (.int .i64 a0_2) := (blk_cell BK233.out 2).trans rfl
          have hcz25_3 : wr.cell? ⟨gb233, 3, none⟩ = some (.int .i64 a0_3) := (blk_cell BK233.out 3).trans rfl
          have hcz25_4 : wr.cell? ⟨gb233, 4, none⟩ = some (.string a0_4) := (blk_cell BK233.out 4).trans rfl
          have hcz25_5 : wr.cell? ⟨gb233, 5, none⟩ = some (.string t234) := (blk_cell BK233.out 5).trans rfl
          have hcz25_6 : wr.cell? ⟨gb233, 6, none⟩ = some (.bool a0_6) := (blk_cell BK233.out 6).trans rfl
          have hcz25_7 : wr.cell? ⟨gb233, 7, none⟩ = some (.bool a0_7) := (blk_cell BK233.out 7).trans rfl
          have hcz25_8 : wr.cell? ⟨gb233, 8, none⟩ = some (.int .i64 a0_8) := (blk_cell BK233.out 8).trans rfl
          have hcz25_9 : wr.cell? ⟨gb233, 9, none⟩ = some (.bool a0_9) := (blk_cell BK233.out 9).trans rfl
          have hcz25_10 : wr.cell? ⟨gb233, 10, none⟩ = some (.int .i64 a0_10) := (blk_cell BK233.out 10).trans rfl
          have hcz25_11 : wr.cell? ⟨gb233, 11, none⟩ = some (.slice A0_11 l0_11.length c0_11) := (blk_cell BK233.out 11).trans rfl
          have hcz25_12 : wr.cell? ⟨gb233, 12, none⟩ = some (.int .i64 a0_12) := (blk_cell BK233.out 12).trans rfl
          have hcz25_13 : wr.cell? ⟨gb233, 13, none⟩ = some (.int .i64 a0_13) := (blk_cell BK233.out 13).trans rfl
          have hcz25_14 : wr.cell? ⟨gb233, 14, none⟩ = some (.int .i64 a0_14) := (blk_cell BK233.out 14).trans rfl
          have hcz25_15 : wr.cell? ⟨gb233, 15, none⟩ = some (.int .i64 a0_15) := (blk_cell BK233.out 15).trans rfl
          have hcz25_16 : wr.cell? ⟨gb233, 16, none⟩ = some (.int .i64 a0_16) := (blk_cell BK233.out 16).trans rfl
          have hfz25_0 := blk_frozen BK233.out 0
          have hfz25_1 := blk_frozen BK233.out 1
          have hfz25_2 := blk_frozen BK233.out 2
          have hfz25_3 := blk_frozen BK233.out 3
          have hfz25_4 := blk_frozen BK233.out 4
          have hfz25_5 := blk_frozen BK233.out 5
          have hfz25_6 := blk_frozen BK233.out 6
          have hfz25_7 := blk_frozen BK233.out 7
          have hfz25_8 := blk_frozen BK233.out 8
          have hfz25_9 := blk_frozen BK233.out 9
          have hfz25_10 := blk_frozen BK233.out 10
          have hfz25_11 := blk_frozen BK233.out 11
          have hfz25_12 := blk_frozen BK233.out 12
          have hfz25_13 := blk_frozen BK233.out 13
          have hfz25_14 := blk_frozen BK233.out 14
          have hfz25_15 := blk_frozen BK233.out 15
          have hfz25_16 := blk_frozen BK233.out 16
          try go_wp2
          have n0_ := Aside0.mk (blk_drew BK233.out)
          have n1_ := Aside0.mk (below_drew1 HB.out)
          clear BK233
          clear HB
          have BK233 := n0_
          have HB := n1_
          clear n0_ n1_
          refine start_ (n := 9) (S := fun w' => w'.cell? ⟨gb233, 0, none⟩ = some (.int .i64 a0_0) ∧ w'.cell? ⟨gb233, 1, none⟩ = some (.int .i64 a0_1) ∧ w'.cell? ⟨gb233, 2, none⟩ = some (.int .i64 a0_2) ∧ w'.cell? ⟨gb233, 3, none⟩ = some (.int .i64 a0_3) ∧ w'.cell? ⟨gb233, 4, none⟩ = some (.string a0_4) ∧ w'.cell? ⟨gb233, 5, none⟩ = some (.string t234) ∧ w'.cell? ⟨gb233, 6, none⟩ = some (.bool a0_6) ∧ w'.cell? ⟨gb233, 7, none⟩ = some (.bool a0_7) ∧ w'.cell? ⟨gb233, 8, none⟩ = some (.int .i64 a0_8) ∧ w'.cell? ⟨gb233, 9, none⟩ = some (.bool a0_9) ∧ w'.cell? ⟨gb233, 10, none⟩ = some (.int .i64 a0_10) ∧ w'.cell? ⟨gb233, 11, none⟩ = some (.slice A0_11 l0_11.length c0_11) ∧ w'.cell? ⟨gb233, 12, none⟩ = some (.int .i64 a0_12) ∧ w'.cell? ⟨gb233, 13, none⟩ = some (.int .i64 a0_13) ∧ w'.cell? ⟨gb233, 14, none⟩ = some (.int .i64 a0_14) ∧ w'.cell? ⟨gb233, 15, none⟩ = some (.int .i64 a0_15) ∧ w'.cell? ⟨gb233, 16, none⟩ = some (.int .i64 a0_16)) (ds := []) #[false, false, false, false, false, false, false, false, false] (by kernel_rfl) rfl rfl ⟨(blk_cell BK233.out 0).trans rfl, (blk_cell BK233.out 1).trans rfl, (blk_cell BK233.out 2).trans rfl, (blk_cell BK233.out 3).trans rfl, (blk_cell BK233.out 4).trans rfl, (blk_cell BK233.out 5).trans rfl, (blk_cell BK233.out 6).trans rfl, (blk_cell BK233.out 7).trans rfl, (blk_cell BK233.out 8).trans rfl, (blk_cell BK233.out 9).trans rfl, (blk_cell BK233.out 10).trans rfl, (blk_cell BK233.out 11).trans rfl, (blk_cell BK233.out 12).trans rfl, (blk_cell BK233.out 13).trans rfl, (blk_cell BK233.out 14).trans rfl, (blk_cell BK233.out 15).trans rfl, (blk_cell BK233.out 16).trans rfl⟩ (fun hHeld => ?_); refine with_tabW gharrylaw25_SayEvents.tab9 gharrylaw25_SayEvents.bits9 (fun HT_ HW_ => ?_)
          generalize wr.drew = w26 at BK233 HB hHeld ⊢
          refine take_ (i := 0) (N := some 42) (v := ?_) (a' := ?_) #[true, false, false, false, false, false, false, false, false] rfl rfl (take_ofW HT_.out HW_.out (by kernel_rfl)) (fun _ _ _ h => h) (Or.inl ⟨by rfl, ?_⟩) hHeld ?_ ?_
          rotate_left
          · rintro w' ⟨s0, s1, s2, s3, s4, s5, s6, s7, s8, s9, s10, s11, s12, s13, s14, s15, s16⟩
            go_simp
            with_reducible rfl
          rotate_left
          · simp only [Act.put, List.setIfInBounds_toArray, List.set_cons_zero, List.set_cons_succ, i64_w, i32_w]
            rfl
          refine take_ (i := 2) (N := some 44) (v := ?_) (a' := ?_) #[true, false, true, false, false, false, false, false, false] rfl rfl (take_ofW HT_.out HW_.out (by kernel_rfl)) (fun _ _ _ h => h) (Or.inl ⟨by rfl, ?_⟩) hHeld ?_ ?_
          rotate_left
          · rintro w' ⟨s0, s1, s2, s3, s4, s5, s6, s7, s8, s9, s10, s11, s12, s13, s14, s15, s16⟩
            go_simp
            with_reducible rfl
          rotate_left
          · simp only [Act.put, List.setIfInBounds_toArray, List.set_cons_zero, List.set_cons_succ, i64_w, i32_w]
            rfl
          refine one_ (i := 1) (N := some 43) #[true, true, true, false, false, false, false, false, false] rfl rfl (one_of HT_.out (by kernel_rfl)) (by decide) (fun K hK => ?_)
          refine goes_ Tryd.func27 (by kernel_rfl) rfl #[.agg #[.int .i64 a0_0, .int .i64 a0_1, .int .i64 a0_2, .int .i64 a0_3, .string a0_4, .string t234, .bool a0_6, .bool a0_7, .int .i64 a0_8, .bool a0_9, .int .i64 a0_10, .slice A0_11 l0_11.length c0_11, .int .i64 a0_12, .int .i64 a0_13, .int .i64 a0_14, .int .i64 a0_15, .int .i64 a0_16]] (by rfl) rfl rfl (by (try simp only [List.map_toArray, List.map_cons, List.map_nil]); first | done | rfl | (simp only [List.length_drop, List.length_take]; rfl)) ?_
          with_reducible refine (say_Event.calls k1 a0_0 a0_1 a0_2 a0_3 a0_4 t234 a0_6 a0_7 a0_8 a0_9 a0_10 _ _ l0_11 a0_12 a0_13 a0_14 a0_15 a0_16 t239 _ ?side1 ?side2 A16.out).mono ?_
          (case side1 => repeat (first | exact (Kd.C_below HR0_11.out HB.out) | (with_reducible refine Kd.C_alloc ?_ _) | (with_reducible refine Kd.C_drewN ?_ _) | (with_reducible refine Kd.C_drew ?_)))
          (case side2 => exact HC0_11.out)
          rintro e w27 ⟨rfl, hb⟩
          refine ⟨_, rfl, ?_⟩
          have n0_ := Aside0.mk (blk_below (g := gb233) (o := .cells #[.int .i64 a0_0, .int .i64 a0_1, .int .i64 a0_2, .int .i64 a0_3, .string a0_4, .string t234, .bool a0_6, .bool a0_7, .int .i64 a0_8, .bool a0_9, .int .i64 a0_10, .slice A0_11 l0_11.length c0_11, .int .i64 a0_12, .int .i64 a0_13, .int .i64 a0_14, .int .i64 a0_15, .int .i64 a0_16] 50 (0, 0)) (by (with_reducible repeat (first | refine blk_drewN ?_ _ | refine blk_drew ?_ | refine blk_alloc ?_ _)); exact BK233.out) hb)
          have n1_ := Aside0.mk (below_step (by repeat (first | (with_reducible first | exact HB.out | apply below_alloc | apply pw_below_drewN | apply below_drew1 | refine below_set ?_ GE233.out) | exact HB.out)) hb)
          clear BK233
          clear HB
          have BK233 := n0_
          have HB := n1_
          clear n0_ n1_
          (try clear hb)
          (try clear hb2)
          (try clear hk)
          (try clear hi)
          refine hK.out _ _ ⟨(blk_cell BK233.out 0).trans rfl, (blk_cell BK233.out 1).trans rfl, (blk_cell BK233.out 2).trans rfl, (blk_cell BK233.out 3).trans rfl, (blk_cell BK233.out 4).trans rfl, (blk_cell BK233.out 5).trans rfl, (blk_cell BK233.out 6).trans rfl, (blk_cell BK233.out 7).trans rfl, (blk_cell BK233.out 8).trans rfl, (blk_cell BK233.out 9).trans rfl, (blk_cell BK233.out 10).trans rfl, (blk_cell BK233.out 11).trans rfl, (blk_cell BK233.out 12).trans rfl, (blk_cell BK233.out 13).trans rfl, (blk_cell BK233.out 14).trans rfl, (blk_cell BK233.out 15).trans rfl, (blk_cell BK233.out 16).trans rfl⟩ (fun hHeld => ?_)
          clear hK K
          refine norm_ (a' := ?_) ?_ ?_
          rotate_left
          · show Act.put _ (some 43) _ = _
            simp only [Act.put, List.setIfInBounds_toArray, List.set_cons_zero, List.set_cons_succ, i64_w, i32_w]
            rfl
          refine one_ (i := 3) (N := some 45) #[true, true, true, true, false, false, false, false, false] rfl rfl (one_of HT_.out (by kernel_rfl)) (by decide) (fun K hK => ?_)
          refine goes_ Tryd.func28 (by kernel_rfl) rfl #[.agg #[.int .i64 a0_0, .int .i64 a0_1, .int .i64 a0_2, .int .i64 a0_3, .string a0_4, .string t234, .bool a0_6, .bool a0_7, .int .i64 a0_8, .bool a0_9, .int .i64 a0_10, .slice A0_11 l0_11.length c0_11, .int .i64 a0_12, .int .i64 a0_13, .int .i64 a0_14, .int .i64 a0_15, .int .i64 a0_16]] (by rfl) rfl rfl (by (try simp only [List.map_toArray, List.map_cons, List.map_nil]); first | done | rfl | (simp only [List.length_drop, List.length_take]; rfl)) ?_
          with_reducible refine (gharrylaw25_event.calls k1 a0_0 a0_1 a0_2 a0_3 a0_4 t234 a0_6 a0_7 a0_8 a0_9 a0_10 _ _ l0_11 a0_12 a0_13 a0_14 a0_15 a0_16 t240 _ ?side1 ?side2 A17.out).mono ?_
          (case side1 => repeat (first | exact (Kd.C_below HR0_11.out HB.out) | (with_reducible refine Kd.C_alloc ?_ _) | (with_reducible refine Kd.C_drewN ?_ _) | (with_reducible refine Kd.C_drew ?_)))
          (case side2 => exact HC0_11.out)
          rintro e w28 ⟨rfl, hb⟩
          refine ⟨_, rfl, ?_⟩
          have n0_ := Aside0.mk (blk_below (g := gb233) (o := .cells #[.int .i64 a0_0, .int .i64 a0_1, .int .i64 a0_2, .int .i64 a0_3, .string a0_4, .string t234, .bool a0_6, .bool a0_7, .int .i64 a0_8, .bool a0_9, .int .i64 a0_10, .slice A0_11 l0_11.length c0_11, .int .i64 a0_12, .int .i64 a0_13, .int .i64 a0_14, .int .i64 a0_15, .int .i64 a0_16] 50 (0, 0)) (by (with_reducible repeat (first | refine blk_drewN ?_ _ | refine blk_drew ?_ | refine blk_alloc ?_ _)); exact BK233.out) hb)
          have n1_ := Aside0.mk (below_step (by repeat (first | (with_reducible first | exact HB.out | apply below_alloc | apply pw_below_drewN | apply below_drew1 | refine below_set ?_ GE233.out) | exact HB.out)) hb)
          clear BK233
          clear HB
          have BK233 := n0_
          have HB := n1_
          clear n0_ n1_
          (try clear hb)
          (try clear hb2)
          (try clear hk)
          (try clear hi)
          refine hK.out _ _ ⟨(blk_cell BK233.out 0).trans rfl, (blk_cell BK233.out 1).trans rfl, (blk_cell BK233.out 2).trans rfl, (blk_cell BK233.out 3).trans rfl, (blk_cell BK233.out 4).trans rfl, (blk_cell BK233.out 5).trans rfl, (blk_cell BK233.out 6).trans rfl, (blk_cell BK233.out 7).trans rfl, (blk_cell BK233.out 8).trans rfl, (blk_cell BK233.out 9).trans rfl, (blk_cell BK233.out 10).trans rfl, (blk_cell BK233.out 11).trans rfl, (blk_cell BK233.out 12).trans rfl, (blk_cell BK233.out 13).trans rfl, (blk_cell BK233.out 14).trans rfl, (blk_cell BK233.out 15).trans rfl, (blk_cell BK233.out 16).trans rfl⟩ (fun hHeld => ?_)
          clear hK K
          refine norm_ (a' := ?_) ?_ ?_
          rotate_left
          · show Act.put _ (some 45) _ = _
            simp only [Act.put, List.setIfInBounds_toArray, List.set_cons_zero, List.set_cons_succ, i64_w, i32_w]
            rfl
          refine pure_ (i := 4) (N := some 46) (v := ?_) (a' := ?_) #[true, true, true, true, true, false, false, false, false] rfl rfl (any_of HT_.out (by kernel_rfl)) (fun _ _ _ h => h) (Or.inl ⟨by rfl, ?_⟩) ?_ ?_
          rotate_left
          · intro w'
            go_simp
            with_reducible rfl
          rotate_left
          · simp only [Act.put, List.setIfInBounds_toArray, List.set_cons_zero, List.set_cons_succ, i64_w, i32_w]
            rfl
          refine pure_ (i := 5) (N := some 47) (v := ?_) (a' := ?_) #[true, true, true, true, true, true, false, false, false] rfl rfl (any_of HT_.out (by kernel_rfl)) (fun _ _ _ h => h) (Or.inl ⟨by rfl, ?_⟩) ?_ ?_
          rotate_left
          · intro w'
            go_simp
            with_reducible rfl
          rotate_left
          · simp only [Act.put, List.setIfInBounds_toArray, List.set_cons_zero, List.set_cons_succ, i64_w, i32_w]
            rfl
          refine pure_ (i := 6) (N := some 48) (v := undef) (a' := ?_) #[true, true, true, true, true, true, true, false, false] rfl rfl (any_of HT_.out (by kernel_rfl)) (fun _ _ _ h => h) (Or.inr ⟨by rfl, rfl⟩) ?_ ?_
          rotate_left
          · simp only [Act.put, List.setIfInBounds_toArray, List.set_cons_zero, List.set_cons_succ, i64_w, i32_w]
            rfl
          refine pure_ (i := 7) (N := some 49) (v := ?_) (a' := ?_) #[true, true, true, true, true, true, true, true, false] rfl rfl (any_of HT_.out (by kernel_rfl)) (fun _ _ _ h => h) (Or.inl ⟨by rfl, ?_⟩) ?_ ?_
          rotate_left
          · intro w'
            go_simp
            with_reducible rfl
          rotate_left
          · simp only [Act.put, List.setIfInBounds_toArray, List.set_cons_zero, List.set_cons_succ, i64_w, i32_w]
            rfl
          refine pure_ (i := 8) (N := some 2) (v := ?_) (a' := ?_) #[true, true, true, true, true, true, true, true, true] rfl rfl (any_of HT_.out (by kernel_rfl)) (fun _ _ _ h => h) (Or.inl ⟨by rfl, ?_⟩) ?_ ?_
          rotate_left
          · intro w'
            go_simp
            with_reducible rfl
          rotate_left
          · simp only [Act.put, List.setIfInBounds_toArray, List.set_cons_zero, List.set_cons_succ, i64_w, i32_w]
            rfl
          refine done_ (done_of HT_.out (by kernel_rfl)) ?_
          try go_wp2
          go_ret
          exact ⟨by first | rfl | (simp [errW_none, errW_some] <;> rfl) | (simp [*, errW_none, errW_some] <;> rfl), by repeat (first | (with_reducible first | exact HB.out | apply below_alloc | apply pw_below_drewN | apply below_drew1 | refine below_set ?_ GE233.out) | exact HB.out)⟩

end Go.Proofs.YtflbkgpmepfhlaaDoor.HSay
