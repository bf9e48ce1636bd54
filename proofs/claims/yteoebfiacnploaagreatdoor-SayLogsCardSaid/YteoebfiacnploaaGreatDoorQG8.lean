/- Texts of this proof, put together: Freclink, Frecchange, Freccut. They prove no statement. -/
import Derived.Test.YteoebfiacnploaaGreatDoorQFtypes
import Derived.Test.YteoebfiacnploaaGreatDoorQHookRc
import Derived.Test.YteoebfiacnploaaGreatDoorQG3
import Derived.Test.YteoebfiacnploaaGreatDoorQG4
namespace Go.Proofs.YteoebfiacnploaaGreatDoor.HRec
open Go.RowKit Go.Proofs.YteoebfiacnploaaGreatDoor.HRec Go.Proofs.YteoebfiacnploaaGreatDoorW.PrintWords Go.Proofs.YteoebfiacnploaaGreatDoorW.PrintLast Go.Proofs.YteoebfiacnploaaGreatDoorW.PrintMore
attribute [local go_sem] max2_int min2_int max_two min_two max_three min_three max_four min_four   -- for this text's walks alone
set_option linter.unusedVariables false
set_option linter.unusedSimpArgs false
/-! ### rec_link: function 60 -/
def rec_link.f (s0_0 : ByteArray) (s0_1 : Int) (a1_0 : Int) (a1_1 : Int) (a1_2 : Int) (a1_3 : Int) (a1_4 : Int) (a1_5 : ByteArray) (a1_6 : ByteArray) (a1_7 : ByteArray) (a1_8 : Int) (l1_9 : List (S144)) (l1_10 : List (S36)) (a1_11 : Int) (a1_12 : Int) : Option (ByteArray × Int) := (pack_Writer_Num.f s0_0 s0_1 a1_1 6).bind fun bt287 => ((pack_Writer_Num.f bt287.1 bt287.2 a1_2 6).bind fun bt289 => (some (bt289.1, bt289.2)))
set_option maxHeartbeats 8000000 in
set_option maxRecDepth 100000 in
theorem rec_link.calls (g : Nat) (s0_0 : ByteArray) (s0_1 : Int) (a1_0 : Int) (a1_1 : Int) (a1_2 : Int) (a1_3 : Int) (a1_4 : Int) (a1_5 : ByteArray) (a1_6 : ByteArray) (a1_7 : ByteArray) (a1_8 : Int) (A1_9 : Option Addr) (c1_9 : Nat) (l1_9 : List (S144)) (A1_10 : Option Addr) (c1_10 : Nat) (l1_10 : List (S36)) (a1_11 : Int) (a1_12 : Int) (r1 : ByteArray) (r2 : Int) (w0 w : World) (hI : IsS114 w0 w g s0_0 s0_1) (hB : Below w0.heap.size w0 w) (hr1_9 : ∀ W_, KeepBut w W_ g none → Kd.C k144 W_ A1_9 l1_9.length l1_9) (hc1_9 : l1_9.length ≤ c1_9) (hr1_10 : ∀ W_, KeepBut w W_ g none → Kd.C k36 W_ A1_10 l1_10.length l1_10) (hc1_10 : l1_10.length ≤ c1_10) (h : rec_link.f s0_0 s0_1 a1_0 a1_1 a1_2 a1_3 a1_4 a1_5 a1_6 a1_7 a1_8 l1_9 l1_10 a1_11 a1_12 = some (r1, r2)) :
    Calls Tryz.prog 80 #[.pointer (some ⟨g, 0, none⟩), .agg #[.int .i64 a1_0, .int .i64 a1_1, .int .i64 a1_2, .int .i64 a1_3, .int .i64 a1_4, .string a1_5, .string a1_6, .string a1_7, .int .i64 a1_8, .slice A1_9 l1_9.length c1_9, .slice A1_10 l1_10.length c1_10, .int .i64 a1_11, .int .i64 a1_12]] w fun e w' => e = .returned (.tuple #[]) ∧ IsS114 w0 w' g r1 r2 ∧ Below w0.heap.size w0 w' ∧ KeepBut w w' g none := by
  have hu32 := Tryz.underlying33; have HR1_9 := Aside0.mk hr1_9; have HC1_9 := Aside0.mk hc1_9; clear hr1_9 hc1_9; have HR1_10 := Aside0.mk hr1_10; have HC1_10 := Aside0.mk hc1_10; clear hr1_10 hc1_10; have HI0 := Aside0.mk hI; have HK := Aside0.mk (KeepBut.refl w g none); have HL := Aside0.mk hB.size; clear hI; have HW0 := Aside0.mk hB.size; have HB := Aside0.mk hB; clear hB
  have H : ((pack_Writer_Num.f s0_0 s0_1 a1_1 6).bind fun bt287 => ((pack_Writer_Num.f bt287.1 bt287.2 a1_2 6).bind fun bt289 => (some (bt289.1, bt289.2)))) = some (r1, r2) := h
  clear h
  replace H := Option.bind_eq_some_iff.mp H
  obtain ⟨⟨t287, t288⟩, A30, H⟩ := H
  replace H : ((pack_Writer_Num.f t287 t288 a1_2 6).bind fun bt289 => (some (bt289.1, bt289.2))) = some (r1, r2) := H
  have A3 := Aside0.mk A30; clear A30
  replace H := Option.bind_eq_some_iff.mp H
  obtain ⟨⟨t289, t290⟩, A40, H⟩ := H
  replace H : (some (t289, t290)) = some (r1, r2) := H
  have A4 := Aside0.mk A40; clear A40
  simp only [Option.some.injEq, Prod.mk.injEq] at H
  obtain ⟨rfl, rfl⟩ := H
  go_enter Tryz.func80, Tryz.ntmps80
  go_wp2_with (first | ((with_reducible refine gate_dst (N := 3) rfl ?_); refine box_event ?hg (N := 3) ?hd (cs := #[.int .i64 a1_0, .int .i64 a1_1, .int .i64 a1_2, .int .i64 a1_3, .int .i64 a1_4, .string a1_5, .string a1_6, .string a1_7, .int .i64 a1_8, .slice A1_9 l1_9.length c1_9, .slice A1_10 l1_10.length c1_10, .int .i64 a1_11, .int .i64 a1_12]) (t := 33) ?hr ?_; (case hd => rfl); (case hg => rfl); (case hr => first | (go_simp; done) | (go_simp; rfl)); intro gb286 hg w5 hbox hb; have n0_ := Aside0.mk (IsS114.below (by repeat (first | (with_reducible first | exact HI0.out | apply IsS114.alloc | apply IsS114.drewN | apply IsS114.drew | apply IsS114.set_0 | apply IsS114.set_1) | exact HI0.out)) hb); have n1_ := Aside0.mk (KeepBut.trans (by repeat (first | (with_reducible first | exact HK.out | apply KeepBut.set_ | apply keep_drewN | apply keep_drew | apply keep_alloc) | exact HK.out)) (KeepBut.of_below hb g none) (.inl rfl)); have n2_ := Aside0.mk (below_step (by repeat (first | (with_reducible first | exact HB.out | apply below_alloc | apply pw_below_drewN | apply below_drew1 | refine below_set ?_ (IsS114.ge HI0.out)) | exact HB.out)) hb); have n3_ := Aside0.mk (hbox); have n4_ := Aside0.mk ((by rw [hg]; exact (keep_size (w := w) (g := g) (row := none) (by repeat (first | (with_reducible first | exact HK.out | apply KeepBut.set_ | apply keep_drewN | apply keep_drew | apply keep_alloc) | exact HK.out))) : w.heap.size ≤ gb286)); have n5_ := Aside0.mk ((Nat.le_trans HW0.out (by rw [hg]; exact (keep_size (w := w) (g := g) (row := none) (by repeat (first | (with_reducible first | exact HK.out | apply KeepBut.set_ | apply keep_drewN | apply keep_drew | apply keep_alloc) | exact HK.out))) : w.heap.size ≤ gb286) : w0.heap.size ≤ gb286)); have n6_ := Aside0.mk ((by rw [hg]; exact Nat.ne_of_lt (IsS114.lt (show IsS114 w0 _ g s0_0 s0_1 from by repeat (first | (with_reducible first | exact HI0.out | apply IsS114.alloc | apply IsS114.drewN | apply IsS114.drew | apply IsS114.set_0 | apply IsS114.set_1) | exact HI0.out))) : g ≠ gb286)); have n7_ := Aside0.mk ((by rw [hg]; exact Nat.ne_of_gt (IsS114.lt (show IsS114 w0 _ g s0_0 s0_1 from by repeat (first | (with_reducible first | exact HI0.out | apply IsS114.alloc | apply IsS114.drewN | apply IsS114.drew | apply IsS114.set_0 | apply IsS114.set_1) | exact HI0.out))) : gb286 ≠ g)); clear HI0; clear HK; clear HB; have HI0 := n0_; have HK := n1_; have HB := n2_; have BK286 := n3_; have GW286 := n4_; have GE286 := n5_; have NB0_286 := n6_; have NB286_0 := n7_; clear n0_ n1_ n2_ n3_ n4_ n5_ n6_ n7_; clear hb hbox hg; have hnb6 := NB286_0.out; have hnc6 := NB0_286.out; have hcz7_0 : w5.cell? ⟨gb286, 0, none⟩ = some (.int .i64 a1_0) := (blk_cell BK286.out 0).trans rfl; have hcz7_1 : w5.cell? ⟨gb286, 1, none⟩ = some (.int .i64 a1_1) := (blk_cell BK286.out 1).trans rfl; have hcz7_2 : w5.cell? ⟨gb286, 2, none⟩ = some (.int .i64 a1_2) := (blk_cell BK286.out 2).trans rfl; have hcz7_3 : w5.cell? ⟨gb286, 3, none⟩ = some (.int .i64 a1_3) := (blk_cell BK286.out 3).trans rfl; have hcz7_4 : w5.cell? ⟨gb286, 4, none⟩ = some (.int .i64 a1_4) := (blk_cell BK286.out 4).trans rfl; have hcz7_5 : w5.cell? ⟨gb286, 5, none⟩ = some (.string a1_5) := (blk_cell BK286.out 5).trans rfl; have hcz7_6 : w5.cell? ⟨gb286, 6, none⟩ = some (.string a1_6) := (blk_cell BK286.out 6).trans rfl; have hcz7_7 : w5.cell? ⟨gb286, 7, none⟩ = some (.string a1_7) := (blk_cell BK286.out 7).trans rfl; have hcz7_8 : w5.cell? ⟨gb286, 8, none⟩ = some (.int .i64 a1_8) := (blk_cell BK286.out 8).trans rfl; have hcz7_9 : w5.cell? ⟨gb286, 9, none⟩ = some (.slice A1_9 l1_9.length c1_9) := (blk_cell BK286.out 9).trans rfl; have hcz7_10 : w5.cell? ⟨gb286, 10, none⟩ = some (.slice A1_10 l1_10.length c1_10) := (blk_cell BK286.out 10).trans rfl; have hcz7_11 : w5.cell? ⟨gb286, 11, none⟩ = some (.int .i64 a1_11) := (blk_cell BK286.out 11).trans rfl; have hcz7_12 : w5.cell? ⟨gb286, 12, none⟩ = some (.int .i64 a1_12) := (blk_cell BK286.out 12).trans rfl; have hfz7_0 := blk_frozen BK286.out 0; have hfz7_1 := blk_frozen BK286.out 1; have hfz7_2 := blk_frozen BK286.out 2; have hfz7_3 := blk_frozen BK286.out 3; have hfz7_4 := blk_frozen BK286.out 4; have hfz7_5 := blk_frozen BK286.out 5; have hfz7_6 := blk_frozen BK286.out 6; have hfz7_7 := blk_frozen BK286.out 7; have hfz7_8 := blk_frozen BK286.out 8; have hfz7_9 := blk_frozen BK286.out 9; have hfz7_10 := blk_frozen BK286.out 10; have hfz7_11 := blk_frozen BK286.out 11; have hfz7_12 := blk_frozen BK286.out 12) | ((with_reducible refine gate_callee (f := 74) rfl ?_); refine goesL_ (some 7) rfl rfl Tryz.func74 (by kernel_rfl) rfl #[.pointer (some ⟨g, 0, none⟩), .int .i64 a1_1, .int .i64 6] rfl (by (try simp only [List.map_toArray, List.map_cons, List.map_nil]); first | done | rfl | (simp only [List.length_drop, List.length_take]; rfl)) ?_; (with_reducible refine (pack_Writer_Num.calls g s0_0 s0_1 a1_1 6 t287 t288 w0 _ ?side1 ?side2 A3.out).mono ?_); (case side1 => repeat (first | (with_reducible first | exact HI0.out | apply IsS114.alloc | apply IsS114.drewN | apply IsS114.drew | apply IsS114.set_0 | apply IsS114.set_1 | refine IsS114.far ?_ NB0_286.out _) | exact HI0.out)); (case side2 => repeat (first | (with_reducible first | exact HB.out | apply below_alloc | apply pw_below_drewN | apply below_drew1 | refine below_set ?_ (IsS114.ge HI0.out) | refine below_set ?_ GE286.out) | exact HB.out)); rintro e w8 ⟨rfl, hi, hb, hk⟩; refine ⟨_, rfl, ?_⟩; have n0_ := Aside0.mk (KeepBut.blk hk (g' := gb286) (o := .cells #[.int .i64 a1_0, .int .i64 a1_1, .int .i64 a1_2, .int .i64 a1_3, .int .i64 a1_4, .string a1_5, .string a1_6, .string a1_7, .int .i64 a1_8, .slice A1_9 l1_9.length c1_9, .slice A1_10 l1_10.length c1_10, .int .i64 a1_11, .int .i64 a1_12] 33 (0, 0)) (by (with_reducible repeat (first | refine blk_drewN ?_ _ | refine blk_drew ?_ | refine blk_alloc ?_ _)); exact BK286.out) NB286_0.out (by simp)); have n1_ := Aside0.mk (KeepBut.trans (by repeat (first | (with_reducible first | exact HK.out | apply KeepBut.set_ | apply keep_drewN | apply keep_drew | apply keep_alloc | refine keep_far ?_ GW286.out _) | exact HK.out)) hk (.inl rfl)); have n2_ := Aside0.mk (hb); have n3_ := Aside0.mk (hi); clear BK286; clear HK; clear HB; clear HI0; have BK286 := n0_; have HK := n1_; have HB := n2_; have HI0 := n3_; clear n0_ n1_ n2_ n3_; (try clear hb); (try clear hb2); (try clear hk); (try clear hi); have hcz9_0 : w8.cell? ⟨gb286, 0, none⟩ = some (.int .i64 a1_0) := (blk_cell BK286.out 0).trans rfl; have hcz9_1 : w8.cell? ⟨gb286, 1, none⟩ = some (.int .i64 a1_1) := (blk_cell BK286.out 1).trans rfl; have hcz9_2 : w8.cell? ⟨gb286, 2, none⟩ = some (.int .i64 a1_2) := (blk_cell BK286.out 2).trans rfl; have hcz9_3 : w8.cell? ⟨gb286, 3, none⟩ = some (.int .i64 a1_3) := (blk_cell BK286.out 3).trans rfl; have hcz9_4 : w8.cell? ⟨gb286, 4, none⟩ = some (.int .i64 a1_4) := (blk_cell BK286.out 4).trans rfl; have hcz9_5 : w8.cell? ⟨gb286, 5, none⟩ = some (.string a1_5) := (blk_cell BK286.out 5).trans rfl; have hcz9_6 : w8.cell? ⟨gb286, 6, none⟩ = some (.string a1_6) := (blk_cell BK286.out 6).trans rfl; have hcz9_7 : w8.cell? ⟨gb286, 7, none⟩ = some (.string a1_7) := (blk_cell BK286.out 7).trans rfl; have hcz9_8 : w8.cell? ⟨gb286, 8, none⟩ = some (.int .i64 a1_8) := (blk_cell BK286.out 8).trans rfl; have hcz9_9 : w8.cell? ⟨gb286, 9, none⟩ = some (.slice A1_9 l1_9.length c1_9) := (blk_cell BK286.out 9).trans rfl; have hcz9_10 : w8.cell? ⟨gb286, 10, none⟩ = some (.slice A1_10 l1_10.length c1_10) := (blk_cell BK286.out 10).trans rfl; have hcz9_11 : w8.cell? ⟨gb286, 11, none⟩ = some (.int .i64 a1_11) := (blk_cell BK286.out 11).trans rfl; have hcz9_12 : w8.cell? ⟨gb286, 12, none⟩ = some (.int .i64 a1_12) := (blk_cell BK286.out 12).trans rfl; have hfz9_0 := blk_frozen BK286.out 0; have hfz9_1 := blk_frozen BK286.out 1; have hfz9_2 := blk_frozen BK286.out 2; have hfz9_3 := blk_frozen BK286.out 3; have hfz9_4 := blk_frozen BK286.out 4; have hfz9_5 := blk_frozen BK286.out 5; have hfz9_6 := blk_frozen BK286.out 6; have hfz9_7 := blk_frozen BK286.out 7; have hfz9_8 := blk_frozen BK286.out 8; have hfz9_9 := blk_frozen BK286.out 9; have hfz9_10 := blk_frozen BK286.out 10; have hfz9_11 := blk_frozen BK286.out 11; have hfz9_12 := blk_frozen BK286.out 12) | ((with_reducible refine gate_callee (f := 74) rfl ?_); refine goesL_ (some 11) rfl rfl Tryz.func74 (by kernel_rfl) rfl #[.pointer (some ⟨g, 0, none⟩), .int .i64 a1_2, .int .i64 6] rfl (by (try simp only [List.map_toArray, List.map_cons, List.map_nil]); first | done | rfl | (simp only [List.length_drop, List.length_take]; rfl)) ?_; (with_reducible refine (pack_Writer_Num.calls g t287 t288 a1_2 6 t289 t290 w0 _ ?side1 ?side2 A4.out).mono ?_); (case side1 => repeat (first | (with_reducible first | exact HI0.out | apply IsS114.alloc | apply IsS114.drewN | apply IsS114.drew | apply IsS114.set_0 | apply IsS114.set_1 | refine IsS114.far ?_ NB0_286.out _) | exact HI0.out)); (case side2 => repeat (first | (with_reducible first | exact HB.out | apply below_alloc | apply pw_below_drewN | apply below_drew1 | refine below_set ?_ (IsS114.ge HI0.out) | refine below_set ?_ GE286.out) | exact HB.out)); rintro e w10 ⟨rfl, hi, hb, hk⟩; refine ⟨_, rfl, ?_⟩; have n0_ := Aside0.mk (KeepBut.blk hk (g' := gb286) (o := .cells #[.int .i64 a1_0, .int .i64 a1_1, .int .i64 a1_2, .int .i64 a1_3, .int .i64 a1_4, .string a1_5, .string a1_6, .string a1_7, .int .i64 a1_8, .slice A1_9 l1_9.length c1_9, .slice A1_10 l1_10.length c1_10, .int .i64 a1_11, .int .i64 a1_12] 33 (0, 0)) (by (with_reducible repeat (first | refine blk_drewN ?_ _ | refine blk_drew ?_ | refine blk_alloc ?_ _)); exact BK286.out) NB286_0.out (by simp)); have n1_ := Aside0.mk (KeepBut.trans (by repeat (first | (with_reducible first | exact HK.out | apply KeepBut.set_ | apply keep_drewN | apply keep_drew | apply keep_alloc | refine keep_far ?_ GW286.out _) | exact HK.out)) hk (.inl rfl)); have n2_ := Aside0.mk (hb); have n3_ := Aside0.mk (hi); clear BK286; clear HK; clear HB; clear HI0; have BK286 := n0_; have HK := n1_; have HB := n2_; have HI0 := n3_; clear n0_ n1_ n2_ n3_; (try clear hb); (try clear hb2); (try clear hk); (try clear hi)))
  first | go_end0 | ((try simp only [Exit.inBlock, Exit.then]); refine bodyPost_ret (results_none rfl _ _ _) rfl ?_)
  exact ⟨by first | rfl | (simp [errW_none, errW_some] <;> rfl) | (simp [*, errW_none, errW_some] <;> rfl), by repeat (first | (with_reducible first | exact HI0.out | apply IsS114.alloc | apply IsS114.drewN | apply IsS114.drew | apply IsS114.set_0 | apply IsS114.set_1 | refine IsS114.far ?_ NB0_286.out _) | exact HI0.out), by repeat (first | (with_reducible first | exact HB.out | apply below_alloc | apply pw_below_drewN | apply below_drew1 | refine below_set ?_ (IsS114.ge HI0.out) | refine below_set ?_ GE286.out) | exact HB.out), by repeat (first | (with_reducible first | exact HK.out | apply KeepBut.set_ | apply keep_drewN | apply keep_drew | apply keep_alloc | refine keep_far ?_ GW286.out _) | exact HK.out)⟩

end Go.Proofs.YteoebfiacnploaaGreatDoor.HRec
namespace Go.Proofs.YteoebfiacnploaaGreatDoor.HRec
open Go.RowKit Go.Proofs.YteoebfiacnploaaGreatDoorW.PrintWords Go.Proofs.YteoebfiacnploaaGreatDoorW.PrintLast Go.Proofs.YteoebfiacnploaaGreatDoorW.PrintMore
set_option linter.unusedVariables false
set_option linter.unusedSimpArgs false
def rec_change.f (s0_0 : ByteArray) (s0_1 : Int) (a1_0 : Int) (a1_1 : Int) (a1_2 : Int) (a1_3 : Int) (a1_4 : Int) (a1_5 : ByteArray) (a1_6 : ByteArray) (a1_7 : ByteArray) (a1_8 : Int) (l1_9 : List (S144)) (l1_10 : List (S36)) (a1_11 : Int) (a1_12 : Int) (a2 : Int) : Option (ByteArray × Int) := (pack_Writer_Num.f s0_0 s0_1 a1_3 2).bind fun bt292 => ((pack_Writer_Text.f bt292.1 bt292.2 a1_5).bind fun bt294 => (if a2 = 3 then (if a2 = 4 then (some (bt294.1, bt294.2)) else ((pack_Writer_Text.f bt294.1 bt294.2 a1_7).bind fun bt296 => (some (bt296.1, bt296.2)))) else ((pack_Writer_Text.f bt294.1 bt294.2 a1_6).bind fun bt298 => (if a2 = 4 then (some (bt298.1, bt298.2)) else ((pack_Writer_Text.f bt298.1 bt298.2 a1_7).bind fun bt300 => (some (bt300.1, bt300.2)))))))
set_option maxHeartbeats 8000000 in
set_option maxRecDepth 100000 in
theorem rec_change.calls (g : Nat) (s0 : ByteArray) (s1 : Int) (x0 x1 x2 x3 x4 : Int) (k o n : ByteArray) (x8 : Int) (A9 : Option Addr) (n9 c9 : Nat) (l9 : List S144) (A10 : Option Addr) (n10 c10 : Nat) (l10 : List S36) (x11 x12 a2 : Int) (r1 : ByteArray) (r2 : Int) (w0 w : World) (hI : IsS114 w0 w g s0 s1) (hB : Below w0.heap.size w0 w) (h : rec_change.f s0 s1 x0 x1 x2 x3 x4 k o n x8 l9 l10 x11 x12 a2 = some (r1, r2)) :
    Calls Tryz.prog 81 #[.pointer (some ⟨g, 0, none⟩), .agg #[.int .i64 x0, .int .i64 x1, .int .i64 x2, .int .i64 x3, .int .i64 x4, .string k, .string o, .string n, .int .i64 x8, .slice A9 n9 c9, .slice A10 n10 c10, .int .i64 x11, .int .i64 x12], .int .i64 a2] w fun e w' => e = .returned (.tuple #[]) ∧ IsS114 w0 w' g r1 r2 ∧ Below w0.heap.size w0 w' ∧ KeepBut w w' g none := by
  have hu32 := Tryz.underlying33
  unfold rec_change.f at h
  obtain ⟨⟨b1, b2⟩, hb, h⟩ := Option.bind_eq_some_iff.mp h
  obtain ⟨⟨d1, d2⟩, hd, h⟩ := Option.bind_eq_some_iff.mp h
  dsimp only at hd h
  obtain ⟨W1, hW1⟩ : ∃ W1, W1 = w.alloc (.cells #[.int .i64 x0, .int .i64 x1, .int .i64 x2, .int .i64 x3, .int .i64 x4, .string k, .string o, .string n, .int .i64 x8, .slice A9 n9 c9, .slice A10 n10 c10, .int .i64 x11, .int .i64 x12] 33) := ⟨_, rfl⟩
  have RR := Aside0.mk (show IsRec W1 w.heap.size x0 x1 x2 x3 x4 k o n x8 (.slice A9 n9 c9) (.slice A10 n10 c10) x11 x12 from by rw [hW1]; exact blk_new w _)
  have I1 := Aside0.mk (show IsS114 w0 W1 g s0 s1 by rw [hW1]; exact hI.alloc _)
  have B1 := Aside0.mk (show Below w0.heap.size w0 W1 by rw [hW1]; exact below_alloc hB _)
  have K1 := Aside0.mk (show KeepBut w W1 g none by rw [hW1]; exact keep_alloc (KeepBut.refl w g none) _)
  have HNE := Aside0.mk (show w.heap.size ≠ g from fun e => by have := hI.lt; omega)
  have HB_ := Aside0.mk hb; have HD_ := Aside0.mk hd; have HH := Aside0.mk h; clear hI hB hb hd h
  go_enter Tryz.func81, Tryz.ntmps81
  go_upto_region 1 with fail
  rw [← hW1]
  clear hW1; have c3 := IsRec.cell_3 RR.out
  go_wp2_with fail
  refine (pack_Writer_Num.calls g s0 s1 x3 2 b1 b2 w0 W1 I1.out B1.out HB_.out).mono ?_
  rintro e w2 ⟨rfl, hi, hb, hk⟩
  have RR2 := Aside0.mk (IsRec.keep RR.out hk HNE.out); have I2 := Aside0.mk hi; have B2 := Aside0.mk hb; have K2 := Aside0.mk (KeepBut.trans K1.out hk (.inl rfl)); clear hi hb hk c3 RR I1 B1 K1 HB_; have c5 := IsRec.cell_5 RR2.out
  go_wp2_with fail
  refine (pack_Writer_Text.calls g b1 b2 k d1 d2 w0 w2 I2.out B2.out HD_.out).mono ?_
  rintro e w3 ⟨rfl, hi, hb, hk⟩
  have RR := Aside0.mk (IsRec.keep RR2.out hk HNE.out); have I1 := Aside0.mk hi; have B1 := Aside0.mk hb; have K1 := Aside0.mk (KeepBut.trans K2.out hk (.inl rfl)); clear hi hb hk c5 RR2 I2 B2 K2 HD_; have h := HH.out; clear HH; have c6 := IsRec.cell_6 RR.out; have c7 := IsRec.cell_7 RR.out
  by_cases k3 : a2 = 3
  · rw [if_pos k3, if_neg (by omega)] at h
    obtain ⟨⟨u1, u2⟩, hu, h⟩ := Option.bind_eq_some_iff.mp h
    simp only [Option.some.injEq, Prod.mk.injEq] at h
    obtain ⟨rfl, rfl⟩ := h
    have HU := Aside0.mk hu
    have t3 : (a2 != 3) = false := bne_eq_false_iff_eq.mpr k3
    have t4 : (a2 != 4) = true := bne_iff_ne.mpr (by omega)
    have t3' : (a2 == 3) = true := beq_iff_eq.mpr k3
    have t4' : (a2 == 4) = false := beq_eq_false_iff_ne.mpr (by omega)
    clear hu k3
    go_wp2_with fail
    refine (pack_Writer_Text.calls g d1 d2 n u1 u2 w0 w3 I1.out B1.out HU.out).mono ?_
    rintro e w4 ⟨rfl, hi, hb, hk⟩
    have F := Aside0.mk (And.intro hi (And.intro hb (KeepBut.trans K1.out hk (.inl rfl)))); clear hi hb hk
    go_wp2_with fail
    first | go_end0 | ((try simp only [Exit.inBlock, Exit.then]); refine bodyPost_ret (results_none rfl _ _ _) rfl ?_)
    exact ⟨rfl, F.out⟩
  · rw [if_neg k3] at h
    obtain ⟨⟨u1, u2⟩, hu, h⟩ := Option.bind_eq_some_iff.mp h
    dsimp only at h
    have HU := Aside0.mk hu; have HH := Aside0.mk h
    have t3 : (a2 != 3) = true := bne_iff_ne.mpr k3
    have t3' : (a2 == 3) = false := beq_eq_false_iff_ne.mpr k3
    clear hu h k3
    go_wp2_with fail
    refine (pack_Writer_Text.calls g d1 d2 o u1 u2 w0 w3 I1.out B1.out HU.out).mono ?_
    rintro e w4 ⟨rfl, hi, hb, hk⟩
    have RR2 := Aside0.mk (IsRec.keep RR.out hk HNE.out); have I2 := Aside0.mk hi; have B2 := Aside0.mk hb; have K2 := Aside0.mk (KeepBut.trans K1.out hk (.inl rfl)); have h := HH.out
    clear hi hb hk RR I1 B1 K1 HU HH c6 c7 t3 t3'
    have c7 := IsRec.cell_7 RR2.out
    by_cases k4 : a2 = 4
    · rw [if_pos k4] at h
      simp only [Option.some.injEq, Prod.mk.injEq] at h
      obtain ⟨rfl, rfl⟩ := h
      have t4 : (a2 != 4) = false := bne_eq_false_iff_eq.mpr k4
      have t4' : (a2 == 4) = true := beq_iff_eq.mpr k4
      clear k4
      go_wp2_with fail
      first | go_end0 | ((try simp only [Exit.inBlock, Exit.then]); refine bodyPost_ret (results_none rfl _ _ _) rfl ?_)
      exact ⟨rfl, I2.out, B2.out, K2.out⟩
    · rw [if_neg k4] at h
      obtain ⟨⟨v1, v2⟩, hv, h⟩ := Option.bind_eq_some_iff.mp h
      simp only [Option.some.injEq, Prod.mk.injEq] at h
      obtain ⟨rfl, rfl⟩ := h
      have HV := Aside0.mk hv
      have t4 : (a2 != 4) = true := bne_iff_ne.mpr k4
      have t4' : (a2 == 4) = false := beq_eq_false_iff_ne.mpr k4
      clear hv k4
      go_wp2_with fail
      refine (pack_Writer_Text.calls g u1 u2 n v1 v2 w0 w4 I2.out B2.out HV.out).mono ?_
      rintro e w5 ⟨rfl, hi, hb, hk⟩
      have F := Aside0.mk (And.intro hi (And.intro hb (KeepBut.trans K2.out hk (.inl rfl)))); clear hi hb hk
      go_wp2_with fail
      first | go_end0 | ((try simp only [Exit.inBlock, Exit.then]); refine bodyPost_ret (results_none rfl _ _ _) rfl ?_)
      exact ⟨rfl, F.out⟩
end Go.Proofs.YteoebfiacnploaaGreatDoor.HRec
namespace Go.Proofs.YteoebfiacnploaaGreatDoor.HRec
open Go.RowKit Go.Proofs.YteoebfiacnploaaGreatDoor.HRec Go.Proofs.YteoebfiacnploaaGreatDoorW.PrintWords Go.Proofs.YteoebfiacnploaaGreatDoorW.PrintLast Go.Proofs.YteoebfiacnploaaGreatDoorW.PrintMore
attribute [local go_sem] max2_int min2_int max_two min_two max_three min_three max_four min_four   -- for this text's walks alone
set_option linter.unusedVariables false
set_option linter.unusedSimpArgs false
/-! ### rec_cut: function 59 -/
def rec_cut.l0 : Nat → List ByteArray → Int → Int → Option (Int)
  | 0, _, _, _ => none
  | k + 1, x10, x11, x12 => if x12 < x11 then (if 0 ≤ x12 then (if x12 < (x10.length : Int) then (if ((rdOf ByteArray.empty x10 x12).size : Int) > 32 then (some 18) else (rec_cut.l0 k x10 x11 (wrap64 (x12 + 1)))) else (none)) else (none)) else (some 0)
def rec_cut.f (k : Nat) (a0 : ByteArray) (l1 : List ByteArray) : Option (Int) := if (a0.size : Int) > 16 then (some 17) else (rec_cut.l0 k l1 (l1.length : Int) 0)
theorem rec_cut.mono_l : ∀ k, (∀ y0 y1 y2, LeO (rec_cut.l0 k y0 y1 y2) (rec_cut.l0 (k + 1) y0 y1 y2))
  | 0 => fun _ _ _ r h => by simp [rec_cut.l0] at h
  | k + 1 => by
    have ih0 := rec_cut.mono_l k
    · intro y0 y1 y2
      unfold rec_cut.l0
      repeat' first
      | (with_reducible exact ih0 _ _ _)
      | (with_reducible exact LeO.refl _)
      | (with_reducible exact LeO.none _)
      | (with_reducible refine LeO.ite ?_ ?_)
      | (with_reducible refine LeO.bind ?_ (fun _ => ?_))
      | exact ih0 _ _ _
      | exact LeO.none _
      | refine LeO.ite ?_ ?_
      | refine LeO.bind ?_ (fun _ => ?_)
theorem rec_cut.mono : ∀ a0 a1 k, LeO (rec_cut.f k a0 a1) (rec_cut.f (k + 1) a0 a1) := by
  intro a0 a1 k
  have ih0 := rec_cut.mono_l k
  unfold rec_cut.f
  repeat' first
      | (with_reducible exact ih0 _ _ _)
      | (with_reducible exact LeO.refl _)
      | (with_reducible exact LeO.none _)
      | (with_reducible refine LeO.ite ?_ ?_)
      | (with_reducible refine LeO.bind ?_ (fun _ => ?_))
      | exact ih0 _ _ _
      | exact LeO.none _
      | refine LeO.ite ?_ ?_
      | refine LeO.bind ?_ (fun _ => ?_)
set_option maxHeartbeats 8000000 in
set_option maxRecDepth 100000 in
theorem rec_cut.calls (k : Nat) (a0 : ByteArray) (A1 : Option Addr) (c1 : Nat) (l1 : List ByteArray) (r : Int) (w : World) (hr1 : Kd.C Kd.string w A1 l1.length l1) (hc1 : l1.length ≤ c1) (h : rec_cut.f k a0 l1 = some r) :
    Calls Tryz.prog 79 #[.string a0, .slice A1 l1.length c1] w fun e w' => e = .returned (.int .i64 r) ∧ Drawn0 w w' := by
  have HR1 := Aside0.mk hr1; have HC1 := Aside0.mk hc1; clear hr1 hc1
  have H : (if (a0.size : Int) > 16 then (some 17) else (rec_cut.l0 k l1 (l1.length : Int) 0)) = some r := h
  clear h
  by_cases c3 : (a0.size : Int) > 16
  · rw [if_pos c3] at H
    have c3b0 : decide (16 < (a0.size : Int)) = true := decide_eq_true c3
    have c3b1 : decide (16 < a0.size) = true := decide_eq_true (by omega)
    clear c3
    obtain rfl := Option.some.inj H
    go_enter Tryz.func79, Tryz.ntmps79
    go_wp2
    go_ret
    exact ⟨by first | rfl | (simp; done) | (simp [*]; done), by repeat (first | exact Drawn0.refl _ | apply Drawn0.step)⟩
  · rw [if_neg c3] at H
    have c3b0 : decide (16 < (a0.size : Int)) = false := decide_eq_false c3
    have c3b1 : decide (16 < a0.size) = false := decide_eq_false (by omega)
    clear c3
    have H' := Aside0.mk H
    clear H
    go_enter Tryz.func79, Tryz.ntmps79
    go_wp2
    go_loopg [12] k (fun kq v12 w' => ∃ (x12_1 : Int), v12 = .int .i64 x12_1 ∧ Aside0 (rec_cut.l0 kq l1 (l1.length : Int) x12_1 = some r) ∧ Aside0 (kq ≤ k) ∧ Drawn0 w w')
    case atStart => exact ⟨(0), (by first | rfl | (simp; done) | (simp [*]; done)), H', ⟨Nat.le_refl _⟩, by repeat (first | exact Drawn0.refl _ | apply Drawn0.step)⟩
    case round =>
      clear H'
      (try clear c1); (try clear p2); (try clear c3); (try clear c3b0); (try clear c3b1)
      obtain ⟨x12_1, rfl, HA, HK1, ⟨m1, rfl⟩⟩ := hrel
      cases gk with
      | zero => exact absurd HA.out (by simp [rec_cut.l0])
      | succ k1 =>
        have H := HA.out; clear HA
        simp only [rec_cut.l0] at H
        by_cases c4 : x12_1 < (l1.length : Int)
        · rw [if_pos c4] at H
          have c4b0 : decide (x12_1 < (l1.length : Int)) = true := decide_eq_true c4
          clear c4
          by_cases c5 : 0 ≤ x12_1
          · rw [if_pos c5] at H
            have c5b0 : decide (0 ≤ x12_1) = true := decide_eq_true c5
            clear c5
            by_cases c6 : x12_1 < (l1.length : Int)
            · rw [if_pos c6] at H
              have c6b0 : decide (x12_1 < (l1.length : Int)) = true := decide_eq_true c6
              clear c6
              by_cases c7 : ((rdOf ByteArray.empty l1 x12_1).size : Int) > 32
              · rw [if_pos c7] at H
                have c7b0 : decide (32 < ((rdOf ByteArray.empty l1 x12_1).size : Int)) = true := decide_eq_true c7
                have c7b1 : decide (32 < (rdOf ByteArray.empty l1 x12_1).size) = true := decide_eq_true (by omega)
                clear c7
                obtain rfl := Option.some.inj H
                have p302 : 0 ≤ (x12_1 : Int) := of_decide_eq_true (by first | (with_reducible assumption) | assumption)
                have q302 : x12_1 < (l1.length : Int) := of_decide_eq_true (by first | (with_reducible assumption) | assumption)
                obtain ⟨ad302, e302, hx302_0⟩ := Kd.at_string HR1.out x12_1 p302 q302
                cases e302
                replace p302 := eq_true p302
                replace q302 := eq_true q302
                go_wp2
                go_ret
                exact ⟨by first | rfl | (simp; done) | (simp [*]; done), by repeat (first | exact Drawn0.refl _ | apply Drawn0.step)⟩
              · rw [if_neg c7] at H
                have c7b0 : decide (32 < ((rdOf ByteArray.empty l1 x12_1).size : Int)) = false := decide_eq_false c7
                have c7b1 : decide (32 < (rdOf ByteArray.empty l1 x12_1).size) = false := decide_eq_false (by omega)
                clear c7
                have H' := Aside0.mk H
                clear H
                have p302 : 0 ≤ (x12_1 : Int) := of_decide_eq_true (by first | (with_reducible assumption) | assumption)
                have q302 : x12_1 < (l1.length : Int) := of_decide_eq_true (by first | (with_reducible assumption) | assumption)
                obtain ⟨ad302, e302, hx302_0⟩ := Kd.at_string HR1.out x12_1 p302 q302
                cases e302
                replace p302 := eq_true p302
                replace q302 := eq_true q302
                go_wp2
                go_roundg k1
                case measure => have := HK1.out; omega
                case rel => exact ⟨(wrap64 (x12_1 + 1)), (by first | rfl | (simp; done) | (simp [*]; done)), H', ⟨by have := HK1.out; omega⟩, by repeat (first | exact Drawn0.refl _ | apply Drawn0.step)⟩
            · rw [if_neg c6] at H
              exact absurd H (by simp)
          · rw [if_neg c5] at H
            exact absurd H (by simp)
        · rw [if_neg c4] at H
          have c4b0 : decide (x12_1 < (l1.length : Int)) = false := decide_eq_false c4
          clear c4
          obtain rfl := Option.some.inj H
          go_wp2
          go_ret
          exact ⟨by first | rfl | (simp; done) | (simp [*]; done), by repeat (first | exact Drawn0.refl _ | apply Drawn0.step)⟩

end Go.Proofs.YteoebfiacnploaaGreatDoor.HRec
