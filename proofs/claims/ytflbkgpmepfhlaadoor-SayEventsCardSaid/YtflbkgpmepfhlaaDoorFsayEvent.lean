import Derived.Test.YtflbkgpmepfhlaaDoorFtypes
import Derived.Test.YtflbkgpmepfhlaaDoorFsayform
namespace Go.Proofs.YtflbkgpmepfhlaaDoor.HSay
open Go.RowKit Go.Proofs.YtflbkgpmepfhlaaDoor.Hook Go.Proofs.YtflbkgpmepfhlaaDoorW.PrintWords Go.Proofs.YtflbkgpmepfhlaaDoorW.PrintLast Go.Proofs.YtflbkgpmepfhlaaDoorW.PrintMore
attribute [local go_sem] max2_int min2_int max_two min_two max_three min_three max_four min_four   -- for this text's walks alone
set_option linter.unusedVariables false
set_option linter.unusedSimpArgs false




mutual
def say_Event.j0 : Nat → ByteArray → Int → Int → Int → Int → ByteArray → ByteArray → Bool → Bool → Int → Bool → Int → List (S52) → Int → Int → Int → Int → Int → Option (ByteArray)
  | 0, _, _, _, _, _, _, _, _, _, _, _, _, _, _, _, _, _, _ => none
  | k + 1, x3, x430000, x430001, x430002, x430003, x430004, x430005, x430006, x430007, x430008, x430009, x430010, x430011, x430012, x430013, x430014, x430015, x430016 => (say_digits.f (IntKind.u64.wrap (mx x430002 0))).bind fun t434 => ((some (([x3, t434] : List ByteArray) : List ByteArray)).bind fun y435 => (if x430007 = true then (if x430008 = 0 then (if y435.length < 8796093022208 then (say_Event.j1 k (y435 ++ [(⟨#[111, 107]⟩ : ByteArray)]) x430000 x430001 x430002 x430003 x430004 x430005 x430006 x430007 x430008 x430009 x430010 x430011 x430012 x430013 x430014 x430015 x430016) else (none)) else ((say_digits.f (IntKind.u64.wrap (mx x430008 0))).bind fun t441 => ((some (([(⟨#[101, 114, 114, 111, 114]⟩ : ByteArray), t441] : List ByteArray) : List ByteArray)).bind fun y442 => (if y435.length + y442.length < 8796093022208 then (say_Event.j1 k (y435 ++ y442) x430000 x430001 x430002 x430003 x430004 x430005 x430006 x430007 x430008 x430009 x430010 x430011 x430012 x430013 x430014 x430015 x430016) else (none))))) else (if y435.length < 8796093022208 then (say_Event.j1 k (y435 ++ [(⟨#[119, 97, 105, 116, 115]⟩ : ByteArray)]) x430000 x430001 x430002 x430003 x430004 x430005 x430006 x430007 x430008 x430009 x430010 x430011 x430012 x430013 x430014 x430015 x430016) else (none))))
def say_Event.j1 : Nat → List ByteArray → Int → Int → Int → Int → ByteArray → ByteArray → Bool → Bool → Int → Bool → Int → List (S52) → Int → Int → Int → Int → Int → Option (ByteArray)
  | 0, _, _, _, _, _, _, _, _, _, _, _, _, _, _, _, _, _, _ => none
  | k + 1, x5, x430000, x430001, x430002, x430003, x430004, x430005, x430006, x430007, x430008, x430009, x430010, x430011, x430012, x430013, x430014, x430015, x430016 => if x430009 = true then ((say_Word.f x430005).bind fun t451 => (if x5.length < 8796093022208 then (say_Event.j2 k (x5 ++ [t451]) x430000 x430001 x430002 x430003 x430004 x430005 x430006 x430007 x430008 x430009 x430010 x430011 x430012 x430013 x430014 x430015 x430016) else (none))) else (say_Event.j2 k x5 x430000 x430001 x430002 x430003 x430004 x430005 x430006 x430007 x430008 x430009 x430010 x430011 x430012 x430013 x430014 x430015 x430016)
def say_Event.j2 : Nat → List ByteArray → Int → Int → Int → Int → ByteArray → ByteArray → Bool → Bool → Int → Bool → Int → List (S52) → Int → Int → Int → Int → Int → Option (ByteArray)
  | 0, _, _, _, _, _, _, _, _, _, _, _, _, _, _, _, _, _, _ => none
  | k + 1, x5, x430000, x430001, x430002, x430003, x430004, x430005, x430006, x430007, x430008, x430009, x430010, x430011, x430012, x430013, x430014, x430015, x430016 => say_Event.l0 k x5 x430011 (x430011.length : Int) 0
def say_Event.l0 : Nat → List ByteArray → List (S52) → Int → Int → Option (ByteArray)
  | 0, _, _, _, _ => none
  | k + 1, x5, x54, x55, x56 => if x56 < x55 then (if 0 ≤ x56 then (if x56 < (x54.length : Int) then ((say_Word.f ((rd_T52 x54 x56).f0)).bind fun t457 => ((say_Word.f ((rd_T52 x54 x56).f1)).bind fun t458 => ((some (([t457, t458] : List ByteArray) : List ByteArray)).bind fun y459 => (if x5.length + y459.length < 8796093022208 then (say_Event.l0 k (x5 ++ y459) x54 x55 (wrap64 (x56 + 1))) else (none))))) else (none)) else (none)) else ((strings_Join.f x5 (⟨#[32]⟩ : ByteArray)).bind fun t465 => (some t465))
end
def say_Event.f (k : Nat) (a0_0 : Int) (a0_1 : Int) (a0_2 : Int) (a0_3 : Int) (a0_4 : ByteArray) (a0_5 : ByteArray) (a0_6 : Bool) (a0_7 : Bool) (a0_8 : Int) (a0_9 : Bool) (a0_10 : Int) (l0_11 : List (S52)) (a0_12 : Int) (a0_13 : Int) (a0_14 : Int) (a0_15 : Int) (a0_16 : Int) : Option (ByteArray) := (say_form.f a0_0).bind fun bt430 => (if bt430.1.toList = ([] : List UInt8) then (say_Event.j0 k (⟨#[110, 111, 110, 101]⟩ : ByteArray) a0_0 a0_1 a0_2 a0_3 a0_4 a0_5 a0_6 a0_7 a0_8 a0_9 a0_10 l0_11 a0_12 a0_13 a0_14 a0_15 a0_16) else (say_Event.j0 k bt430.1 a0_0 a0_1 a0_2 a0_3 a0_4 a0_5 a0_6 a0_7 a0_8 a0_9 a0_10 l0_11 a0_12 a0_13 a0_14 a0_15 a0_16))
theorem say_Event.mono_l : ∀ k, (∀ y0 y1 y2 y3 y4 y5 y6 y7 y8 y9 y10 y11 y12 y13 y14 y15 y16 y17, LeO (say_Event.j0 k y0 y1 y2 y3 y4 y5 y6 y7 y8 y9 y10 y11 y12 y13 y14 y15 y16 y17) (say_Event.j0 (k + 1) y0 y1 y2 y3 y4 y5 y6 y7 y8 y9 y10 y11 y12 y13 y14 y15 y16 y17)) ∧ (∀ y0 y1 y2 y3 y4 y5 y6 y7 y8 y9 y10 y11 y12 y13 y14 y15 y16 y17, LeO (say_Event.j1 k y0 y1 y2 y3 y4 y5 y6 y7 y8 y9 y10 y11 y12 y13 y14 y15 y16 y17) (say_Event.j1 (k + 1) y0 y1 y2 y3 y4 y5 y6 y7 y8 y9 y10 y11 y12 y13 y14 y15 y16 y17)) ∧ (∀ y0 y1 y2 y3 y4 y5 y6 y7 y8 y9 y10 y11 y12 y13 y14 y15 y16 y17, LeO (say_Event.j2 k y0 y1 y2 y3 y4 y5 y6 y7 y8 y9 y10 y11 y12 y13 y14 y15 y16 y17) (say_Event.j2 (k + 1) y0 y1 y2 y3 y4 y5 y6 y7 y8 y9 y10 y11 y12 y13 y14 y15 y16 y17)) ∧ (∀ y0 y1 y2 y3, LeO (say_Event.l0 k y0 y1 y2 y3) (say_Event.l0 (k + 1) y0 y1 y2 y3))
  | 0 => ⟨fun _ _ _ _ _ _ _ _ _ _ _ _ _ _ _ _ _ _ r h => by simp [say_Event.j0] at h, fun _ _ _ _ _ _ _ _ _ _ _ _ _ _ _ _ _ _ r h => by simp [say_Event.j1] at h, fun _ _ _ _ _ _ _ _ _ _ _ _ _ _ _ _ _ _ r h => by simp [say_Event.j2] at h, fun _ _ _ _ r h => by simp [say_Event.l0] at h⟩
  | k + 1 => by
    obtain ⟨ih0, ih1, ih2, ih3⟩ := say_Event.mono_l k
    refine ⟨?_, ?_, ?_, ?_⟩
    · intro y0 y1 y2 y3 y4 y5 y6 y7 y8 y9 y10 y11 y12 y13 y14 y15 y16 y17
      unfold say_Event.j0
      repeat' first
      | (with_reducible exact ih0 _ _ _ _ _ _ _ _ _ _ _ _ _ _ _ _ _ _)
      | (with_reducible exact ih1 _ _ _ _ _ _ _ _ _ _ _ _ _ _ _ _ _ _)
      | (with_reducible exact ih2 _ _ _ _ _ _ _ _ _ _ _ _ _ _ _ _ _ _)
      | (with_reducible exact ih3 _ _ _ _)
      | (with_reducible exact LeO.refl _)
      | (with_reducible exact LeO.none _)
      | (with_reducible refine LeO.ite ?_ ?_)
      | (with_reducible refine LeO.bind ?_ (fun _ => ?_))
      | exact ih0 _ _ _ _ _ _ _ _ _ _ _ _ _ _ _ _ _ _
      | exact ih1 _ _ _ _ _ _ _ _ _ _ _ _ _ _ _ _ _ _
      | exact ih2 _ _ _ _ _ _ _ _ _ _ _ _ _ _ _ _ _ _
      | exact ih3 _ _ _ _
      | exact LeO.none _
      | refine LeO.ite ?_ ?_
      | refine LeO.bind ?_ (fun _ => ?_)
    · intro y0 y1 y2 y3 y4 y5 y6 y7 y8 y9 y10 y11 y12 y13 y14 y15 y16 y17
      unfold say_Event.j1
      repeat' first
      | (with_reducible exact ih0 _ _ _ _ _ _ _ _ _ _ _ _ _ _ _ _ _ _)
      | (with_reducible exact ih1 _ _ _ _ _ _ _ _ _ _ _ _ _ _ _ _ _ _)
      | (with_reducible exact ih2 _ _ _ _ _ _ _ _ _ _ _ _ _ _ _ _ _ _)
      | (with_reducible exact ih3 _ _ _ _)
      | (with_reducible exact LeO.refl _)
      | (with_reducible exact LeO.none _)
      | (with_reducible refine LeO.ite ?_ ?_)
      | (with_reducible refine LeO.bind ?_ (fun _ => ?_))
      | exact ih0 _ _ _ _ _ _ _ _ _ _ _ _ _ _ _ _ _ _
      | exact ih1 _ _ _ _ _ _ _ _ _ _ _ _ _ _ _ _ _ _
      | exact ih2 _ _ _ _ _ _ _ _ _ _ _ _ _ _ _ _ _ _
      | exact ih3 _ _ _ _
      | exact LeO.none _
      | refine LeO.ite ?_ ?_
      | refine LeO.bind ?_ (fun _ => ?_)
    · intro y0 y1 y2 y3 y4 y5 y6 y7 y8 y9 y10 y11 y12 y13 y14 y15 y16 y17
      unfold say_Event.j2
      repeat' first
      | (with_reducible exact ih0 _ _ _ _ _ _ _ _ _ _ _ _ _ _ _ _ _ _)
      | (with_reducible exact ih1 _ _ _ _ _ _ _ _ _ _ _ _ _ _ _ _ _ _)
      | (with_reducible exact ih2 _ _ _ _ _ _ _ _ _ _ _ _ _ _ _ _ _ _)
      | (with_reducible exact ih3 _ _ _ _)
      | (with_reducible exact LeO.refl _)
      | (with_reducible exact LeO.none _)
      | (with_reducible refine LeO.ite ?_ ?_)
      | (with_reducible refine LeO.bind ?_ (fun _ => ?_))
      | exact ih0 _ _ _ _ _ _ _ _ _ _ _ _ _ _ _ _ _ _
      | exact ih1 _ _ _ _ _ _ _ _ _ _ _ _ _ _ _ _ _ _
      | exact ih2 _ _ _ _ _ _ _ _ _ _ _ _ _ _ _ _ _ _
      | exact ih3 _ _ _ _
      | exact LeO.none _
      | refine LeO.ite ?_ ?_
      | refine LeO.bind ?_ (fun _ => ?_)
    · intro y0 y1 y2 y3
      unfold say_Event.l0
      repeat' first
      | (with_reducible exact ih0 _ _ _ _ _ _ _ _ _ _ _ _ _ _ _ _ _ _)
      | (with_reducible exact ih1 _ _ _ _ _ _ _ _ _ _ _ _ _ _ _ _ _ _)
      | (with_reducible exact ih2 _ _ _ _ _ _ _ _ _ _ _ _ _ _ _ _ _ _)
      | (with_reducible exact ih3 _ _ _ _)
      | (with_reducible exact LeO.refl _)
      | (with_reducible exact LeO.none _)
      | (with_reducible refine LeO.ite ?_ ?_)
      | (with_reducible refine LeO.bind ?_ (fun _ => ?_))
      | exact ih0 _ _ _ _ _ _ _ _ _ _ _ _ _ _ _ _ _ _
      | exact ih1 _ _ _ _ _ _ _ _ _ _ _ _ _ _ _ _ _ _
      | exact ih2 _ _ _ _ _ _ _ _ _ _ _ _ _ _ _ _ _ _
      | exact ih3 _ _ _ _
      | exact LeO.none _
      | refine LeO.ite ?_ ?_
      | refine LeO.bind ?_ (fun _ => ?_)
theorem say_Event.mono : ∀ a0 a1 a2 a3 a4 a5 a6 a7 a8 a9 a10 a11 a12 a13 a14 a15 a16 k, LeO (say_Event.f k a0 a1 a2 a3 a4 a5 a6 a7 a8 a9 a10 a11 a12 a13 a14 a15 a16) (say_Event.f (k + 1) a0 a1 a2 a3 a4 a5 a6 a7 a8 a9 a10 a11 a12 a13 a14 a15 a16) := by
  intro a0 a1 a2 a3 a4 a5 a6 a7 a8 a9 a10 a11 a12 a13 a14 a15 a16 k
  obtain ⟨ih0, ih1, ih2, ih3⟩ := say_Event.mono_l k
  unfold say_Event.f
  repeat' first
      | (with_reducible exact ih0 _ _ _ _ _ _ _ _ _ _ _ _ _ _ _ _ _ _)
      | (with_reducible exact ih1 _ _ _ _ _ _ _ _ _ _ _ _ _ _ _ _ _ _)
      | (with_reducible exact ih2 _ _ _ _ _ _ _ _ _ _ _ _ _ _ _ _ _ _)
      | (with_reducible exact ih3 _ _ _ _)
      | (with_reducible exact LeO.refl _)
      | (with_reducible exact LeO.none _)
      | (with_reducible refine LeO.ite ?_ ?_)
      | (with_reducible refine LeO.bind ?_ (fun _ => ?_))
      | exact ih0 _ _ _ _ _ _ _ _ _ _ _ _ _ _ _ _ _ _
      | exact ih1 _ _ _ _ _ _ _ _ _ _ _ _ _ _ _ _ _ _
      | exact ih2 _ _ _ _ _ _ _ _ _ _ _ _ _ _ _ _ _ _
      | exact ih3 _ _ _ _
      | exact LeO.none _
      | refine LeO.ite ?_ ?_
      | refine LeO.bind ?_ (fun _ => ?_)
def say_Event.T15 : Bool × List (List Nat × List Nat) := (true, [([], []), ([], []), ([1], [1]), ([2], [2]), ([], []), ([4], [4]), ([5, 3], [5]), ([3, 6], [3, 6]), ([0, 7, 6], [0, 7]), ([8, 8, 0, 1, 2, 3, 4, 5, 6, 7, 8], [0, 8])])
def say_Event.B15 : List Nat := [0, 0, 2, 6, 0, 16, 62, 126, 255, 511]
theorem say_Event.tab15 : rtab .any (opsOf Tryd.f27 15) = say_Event.T15 := by kernel_rfl
theorem say_Event.bits15 : waitsOk say_Event.T15.2 say_Event.B15 = true := by kernel_rfl
set_option maxHeartbeats 8000000 in
set_option maxRecDepth 100000 in
theorem say_Event.calls (k : Nat) (a0_0 : Int) (a0_1 : Int) (a0_2 : Int) (a0_3 : Int) (a0_4 : ByteArray) (a0_5 : ByteArray) (a0_6 : Bool) (a0_7 : Bool) (a0_8 : Int) (a0_9 : Bool) (a0_10 : Int) (A0_11 : Option Addr) (c0_11 : Nat) (l0_11 : List (S52)) (a0_12 : Int) (a0_13 : Int) (a0_14 : Int) (a0_15 : Int) (a0_16 : Int) (r : ByteArray) (w : World) (hr0_11 : Kd.C k52 w A0_11 l0_11.length l0_11) (hc0_11 : l0_11.length ≤ c0_11) (h : say_Event.f k a0_0 a0_1 a0_2 a0_3 a0_4 a0_5 a0_6 a0_7 a0_8 a0_9 a0_10 l0_11 a0_12 a0_13 a0_14 a0_15 a0_16 = some r) :
    Calls Tryd.prog 27 #[.agg #[.int .i64 a0_0, .int .i64 a0_1, .int .i64 a0_2, .int .i64 a0_3, .string a0_4, .string a0_5, .bool a0_6, .bool a0_7, .int .i64 a0_8, .bool a0_9, .int .i64 a0_10, .slice A0_11 l0_11.length c0_11, .int .i64 a0_12, .int .i64 a0_13, .int .i64 a0_14, .int .i64 a0_15, .int .i64 a0_16]] w fun e w' => e = .returned (.string r) ∧ Below w.heap.size w w' := by
  have hu50 := Tryd.underlying50
  have hu52 := Tryd.underlying52
  have HR0_11 := Aside0.mk hr0_11
  have HC0_11 := Aside0.mk hc0_11
  clear hr0_11 hc0_11
  have HB := Aside0.mk (Below.refl w.heap.size w)
  have H : ((say_form.f a0_0).bind fun bt430 => (if bt430.1.toList = ([] : List UInt8) then (say_Event.j0 k (⟨#[110, 111, 110, 101]⟩ : ByteArray) a0_0 a0_1 a0_2 a0_3 a0_4 a0_5 a0_6 a0_7 a0_8 a0_9 a0_10 l0_11 a0_12 a0_13 a0_14 a0_15 a0_16) else (say_Event.j0 k bt430.1 a0_0 a0_1 a0_2 a0_3 a0_4 a0_5 a0_6 a0_7 a0_8 a0_9 a0_10 l0_11 a0_12 a0_13 a0_14 a0_15 a0_16))) = some r := h
  clear h
  replace H := Option.bind_eq_some_iff.mp H
  obtain ⟨⟨t430, t431⟩, A20, H⟩ := H
  replace H : (if t430.toList = ([] : List UInt8) then (say_Event.j0 k (⟨#[110, 111, 110, 101]⟩ : ByteArray) a0_0 a0_1 a0_2 a0_3 a0_4 a0_5 a0_6 a0_7 a0_8 a0_9 a0_10 l0_11 a0_12 a0_13 a0_14 a0_15 a0_16) else (say_Event.j0 k t430 a0_0 a0_1 a0_2 a0_3 a0_4 a0_5 a0_6 a0_7 a0_8 a0_9 a0_10 l0_11 a0_12 a0_13 a0_14 a0_15 a0_16)) = some r := H
  have A2 := Aside0.mk A20
  clear A20
  have HC3 := Aside0.mk H
  clear H
  go_enter Tryd.func27, Tryd.ntmps27
  go_upto_if 15 with (first | ((with_reducible refine gate_dst (N := 1) rfl ?_); refine box_event ?hg (N := 1) ?hd (cs := #[.int .i64 a0_0, .int .i64 a0_1, .int .i64 a0_2, .int .i64 a0_3, .string a0_4, .string a0_5, .bool a0_6, .bool a0_7, .int .i64 a0_8, .bool a0_9, .int .i64 a0_10, .slice A0_11 l0_11.length c0_11, .int .i64 a0_12, .int .i64 a0_13, .int .i64 a0_14, .int .i64 a0_15, .int .i64 a0_16]) (t := 50) ?hr ?_; (case hd => rfl); (case hg => rfl); (case hr => first | (go_simp; done) | (go_simp; rfl)); intro gb429 hg w4 hbox hb; have n0_ := Aside0.mk (below_step (by repeat (first | (with_reducible first | exact HB.out | apply below_alloc | apply pw_below_drewN | apply below_drew1) | exact HB.out)) hb); have n1_ := Aside0.mk (hbox); have n2_ := Aside0.mk ((by rw [hg]; exact (below_size (by repeat (first | (with_reducible first | exact HB.out | apply below_alloc | apply pw_below_drewN | apply below_drew1) | exact HB.out))) : w.heap.size ≤ gb429)); have n3_ := Aside0.mk ((by rw [hg]; exact (below_size (by repeat (first | (with_reducible first | exact HB.out | apply below_alloc | apply pw_below_drewN | apply below_drew1) | exact HB.out))) : w.heap.size ≤ gb429)); clear HB; have HB := n0_; have BK429 := n1_; have GW429 := n2_; have GE429 := n3_; clear n0_ n1_ n2_ n3_; clear hb hbox hg; have hcz5_0 : w4.cell? ⟨gb429, 0, none⟩ = some (.int .i64 a0_0) := (blk_cell BK429.out 0).trans rfl; have hcz5_1 : w4.cell? ⟨gb429, 1, none⟩ = some (.int .i64 a0_1) := (blk_cell BK429.out 1).trans rfl; have hcz5_2 : w4.cell? ⟨gb429, 2, none⟩ = some (.int .i64 a0_2) := (blk_cell BK429.out 2).trans rfl; have hcz5_3 : w4.cell? ⟨gb429, 3, none⟩ = some (.int .i64 a0_3) := (blk_cell BK429.out 3).trans rfl; have hcz5_4 : w4.cell? ⟨gb429, 4, none⟩ = some (.string a0_4) := (blk_cell BK429.out 4).trans rfl; have hcz5_5 : w4.cell? ⟨gb429, 5, none⟩ = some (.string a0_5) := (blk_cell BK429.out 5).trans rfl; have hcz5_6 : w4.cell? ⟨gb429, 6, none⟩ = some (.bool a0_6) := (blk_cell BK429.out 6).trans rfl; have hcz5_7 : w4.cell? ⟨gb429, 7, none⟩ = some (.bool a0_7) := (blk_cell BK429.out 7).trans rfl; have hcz5_8 : w4.cell? ⟨gb429, 8, none⟩ = some (.int .i64 a0_8) := (blk_cell BK429.out 8).trans rfl; have hcz5_9 : w4.cell? ⟨gb429, 9, none⟩ = some (.bool a0_9) := (blk_cell BK429.out 9).trans rfl; have hcz5_10 : w4.cell? ⟨gb429, 10, none⟩ = some (.int .i64 a0_10) := (blk_cell BK429.out 10).trans rfl; have hcz5_11 : w4.cell? ⟨gb429, 11, none⟩ = some (.slice A0_11 l0_11.length c0_11) := (blk_cell BK429.out 11).trans rfl; have hcz5_12 : w4.cell? ⟨gb429, 12, none⟩ = some (.int .i64 a0_12) := (blk_cell BK429.out 12).trans rfl; have hcz5_13 : w4.cell? ⟨gb429, 13, none⟩ = some (.int .i64 a0_13) := (blk_cell BK429.out 13).trans rfl; have hcz5_14 : w4.cell? ⟨gb429, 14, none⟩ = some (.int .i64 a0_14) := (blk_cell BK429.out 14).trans rfl; have hcz5_15 : w4.cell? ⟨gb429, 15, none⟩ = some (.int .i64 a0_15) := (blk_cell BK429.out 15).trans rfl; have hcz5_16 : w4.cell? ⟨gb429, 16, none⟩ = some (.int .i64 a0_16) := (blk_cell BK429.out 16).trans rfl; have hfz5_0 := blk_frozen BK429.out 0; have hfz5_1 := blk_frozen BK429.out 1; have hfz5_2 := blk_frozen BK429.out 2; have hfz5_3 := blk_frozen BK429.out 3; have hfz5_4 := blk_frozen BK429.out 4; have hfz5_5 := blk_frozen BK429.out 5; have hfz5_6 := blk_frozen BK429.out 6; have hfz5_7 := blk_frozen BK429.out 7; have hfz5_8 := blk_frozen BK429.out 8; have hfz5_9 := blk_frozen BK429.out 9; have hfz5_10 := blk_frozen BK429.out 10; have hfz5_11 := blk_frozen BK429.out 11; have hfz5_12 := blk_frozen BK429.out 12; have hfz5_13 := blk_frozen BK429.out 13; have hfz5_14 := blk_frozen BK429.out 14; have hfz5_15 := blk_frozen BK429.out 15; have hfz5_16 := blk_frozen BK429.out 16) | ((with_reducible refine gate_callee (f := 36) rfl ?_); refine goesL_ (some 11) rfl rfl Tryd.func36 (by kernel_rfl) rfl #[.int .i64 a0_0] rfl (by (try simp only [List.map_toArray, List.map_cons, List.map_nil]); first | done | rfl | (simp only [List.length_drop, List.length_take]; rfl)) ?_; (with_reducible refine (say_form.calls a0_0 t430 t431 _ A2.out).mono ?_); rintro e w6 ⟨v432, rfl, ho0, hb⟩; refine ⟨_, rfl, ?_⟩; have n0_ := Aside0.mk (Kd.R_lower ho0 (below_size (by repeat (first | (with_reducible first | exact HB.out | apply below_alloc | apply pw_below_drewN | apply below_drew1 | refine below_set ?_ GE429.out) | exact HB.out)))); have n1_ := Aside0.mk (blk_below (g := gb429) (o := .cells #[.int .i64 a0_0, .int .i64 a0_1, .int .i64 a0_2, .int .i64 a0_3, .string a0_4, .string a0_5, .bool a0_6, .bool a0_7, .int .i64 a0_8, .bool a0_9, .int .i64 a0_10, .slice A0_11 l0_11.length c0_11, .int .i64 a0_12, .int .i64 a0_13, .int .i64 a0_14, .int .i64 a0_15, .int .i64 a0_16] 50 (0, 0)) (by (with_reducible repeat (first | refine blk_drewN ?_ _ | refine blk_drew ?_ | refine blk_alloc ?_ _)); exact BK429.out) hb); have n2_ := Aside0.mk (below_step (by repeat (first | (with_reducible first | exact HB.out | apply below_alloc | apply pw_below_drewN | apply below_drew1 | refine below_set ?_ GE429.out) | exact HB.out)) hb); clear BK429; clear HB; have HO433 := n0_; have BK429 := n1_; have HB := n2_; clear n0_ n1_ n2_; (try clear hb); (try clear hb2); (try clear hk); (try clear hi); (try clear ho0)))
  (try simp only [Act.put, List.setIfInBounds_toArray, List.set_cons_zero, List.set_cons_succ])
  go_cut [3] (fun v3 wc => ∃ (kq : Nat) (x3_2 : ByteArray), v3 = .string x3_2 ∧ Aside0 (say_Event.j0 kq x3_2 a0_0 a0_1 a0_2 a0_3 a0_4 a0_5 a0_6 a0_7 a0_8 a0_9 a0_10 l0_11 a0_12 a0_13 a0_14 a0_15 a0_16 = some r) ∧ Aside0 (kq ≤ k) ∧ Aside0 (wc.heap[gb429]? = some (.cells #[.int .i64 a0_0, .int .i64 a0_1, .int .i64 a0_2, .int .i64 a0_3, .string a0_4, .string a0_5, .bool a0_6, .bool a0_7, .int .i64 a0_8, .bool a0_9, .int .i64 a0_10, (.slice A0_11 l0_11.length c0_11), .int .i64 a0_12, .int .i64 a0_13, .int .i64 a0_14, .int .i64 a0_15, .int .i64 a0_16] 50 (0, 0))) ∧ Aside0 (Below w.heap.size w wc))
  case first =>
    have H := HC3.out
    clear HC3
    by_cases c7 : t430.toList = ([] : List UInt8)
    · rw [if_pos c7] at H
      have c7b0 : (t430.toList == ([] : List UInt8)) = true := beq_iff_eq.mpr c7
      have c7b9 : t430.toList.isEmpty = true := by simpa using c7b0
      have c7b1 : (t430.toList != ([] : List UInt8)) = false := bne_eq_false_iff_eq.mpr c7
      clear c7
      (first | rw [c7b0] | rw [c7b9] | (simp only [i64_w, i32_w]; rw [c7b0]) | skip)
      have H' := Aside0.mk H
      clear H
      go_wp2
      go_meet
      case rel => exact ⟨_, ((⟨#[110, 111, 110, 101]⟩ : ByteArray)), (by first | rfl | (simp; done) | (simp [*]; done)), H', ⟨by first | omega | exact Nat.le_refl _⟩, ⟨by (with_reducible repeat (first | refine blk_drewN ?_ _ | refine blk_drew ?_ | refine blk_alloc ?_ _)); exact BK429.out⟩, ⟨by repeat (first | (with_reducible first | exact HB.out | apply below_alloc | apply pw_below_drewN | apply below_drew1 | refine below_set ?_ GE429.out) | exact HB.out)⟩⟩
    · rw [if_neg c7] at H
      have c7b0 : (t430.toList == ([] : List UInt8)) = false := beq_eq_false_iff_ne.mpr c7
      have c7b9 : t430.toList.isEmpty = false := by simpa using c7b0
      have c7b1 : (t430.toList != ([] : List UInt8)) = true := bne_iff_ne.mpr c7
      (first | rw [c7b0] | rw [c7b9] | (simp only [i64_w, i32_w]; rw [c7b0]) | skip)
      have H' := Aside0.mk H
      clear H
      go_wp2
      go_meet
      case rel => exact ⟨_, (t430), (by first | rfl | (simp; done) | (simp [*]; done)), H', ⟨by first | omega | exact Nat.le_refl _⟩, ⟨by (with_reducible repeat (first | refine blk_drewN ?_ _ | refine blk_drew ?_ | refine blk_alloc ?_ _)); exact BK429.out⟩, ⟨by repeat (first | (with_reducible first | exact HB.out | apply below_alloc | apply pw_below_drewN | apply below_drew1 | refine below_set ?_ GE429.out) | exact HB.out)⟩⟩
  case rest =>
    clear HC3
    try clear c2
    try clear p2
    try clear c3
    try clear c7
    try clear c7b0
    try clear c7b1
    try clear hcz5_0
    try clear hcz5_1
    try clear hcz5_10
    try clear hcz5_11
    try clear hcz5_12
    try clear hcz5_13
    try clear hcz5_14
    try clear hcz5_15
    try clear hcz5_16
    try clear hcz5_2
    try clear hcz5_3
    try clear hcz5_4
    try clear hcz5_5
    try clear hcz5_6
    try clear hcz5_7
    try clear hcz5_8
    try clear hcz5_9
    try clear hfz5_0
    try clear hfz5_1
    try clear hfz5_10
    try clear hfz5_11
    try clear hfz5_12
    try clear hfz5_13
    try clear hfz5_14
    try clear hfz5_15
    try clear hfz5_16
    try clear hfz5_2
    try clear hfz5_3
    try clear hfz5_4
    try clear hfz5_5
    try clear hfz5_6
    try clear hfz5_7
    try clear hfz5_8
    try clear hfz5_9
    obtain ⟨kq, x3_2, rfl, HA, HJ2, BK429, HB⟩ := hcut
    cases kq with
    | zero => exact absurd HA.out (by simp [say_Event.j0])
    | succ kj2 =>
      have H := HA.out
      clear HA
      simp only [say_Event.j0] at H
      obtain ⟨ji8, hji8⟩ : ∃ j_ : Int, (mx a0_2 0) = j_ := ⟨_, rfl⟩
      replace H : ((say_digits.f (IntKind.u64.wrap (ji8))).bind fun t434 => ((some (([x3_2, t434] : List ByteArray) : List ByteArray)).bind fun y435 => (if a0_7 = true then (if a0_8 = 0 then (if y435.length < 8796093022208 then (say_Event.j1 kj2 (y435 ++ [(⟨#[111, 107]⟩ : ByteArray)]) a0_0 a0_1 a0_2 a0_3 a0_4 a0_5 a0_6 a0_7 a0_8 a0_9 a0_10 l0_11 a0_12 a0_13 a0_14 a0_15 a0_16) else (none)) else ((say_digits.f (IntKind.u64.wrap (mx a0_8 0))).bind fun t441 => ((some (([(⟨#[101, 114, 114, 111, 114]⟩ : ByteArray), t441] : List ByteArray) : List ByteArray)).bind fun y442 => (if y435.length + y442.length < 8796093022208 then (say_Event.j1 kj2 (y435 ++ y442) a0_0 a0_1 a0_2 a0_3 a0_4 a0_5 a0_6 a0_7 a0_8 a0_9 a0_10 l0_11 a0_12 a0_13 a0_14 a0_15 a0_16) else (none))))) else (if y435.length < 8796093022208 then (say_Event.j1 kj2 (y435 ++ [(⟨#[119, 97, 105, 116, 115]⟩ : ByteArray)]) a0_0 a0_1 a0_2 a0_3 a0_4 a0_5 a0_6 a0_7 a0_8 a0_9 a0_10 l0_11 a0_12 a0_13 a0_14 a0_15 a0_16) else (none))))) = some r := by first | (rw [hji8] at H; exact H) | (simp only [hji8] at H ⊢; exact H)
      have hji8_ : (if a0_2 < 0 then 0 else a0_2) = ji8 := hji8
      replace H := Option.bind_eq_some_iff.mp H
      obtain ⟨t434, A90, H⟩ := H
      replace H : ((some (([x3_2, t434] : List ByteArray) : List ByteArray)).bind fun y435 => (if a0_7 = true then (if a0_8 = 0 then (if y435.length < 8796093022208 then (say_Event.j1 kj2 (y435 ++ [(⟨#[111, 107]⟩ : ByteArray)]) a0_0 a0_1 a0_2 a0_3 a0_4 a0_5 a0_6 a0_7 a0_8 a0_9 a0_10 l0_11 a0_12 a0_13 a0_14 a0_15 a0_16) else (none)) else ((say_digits.f (IntKind.u64.wrap (mx a0_8 0))).bind fun t441 => ((some (([(⟨#[101, 114, 114, 111, 114]⟩ : ByteArray), t441] : List ByteArray) : List ByteArray)).bind fun y442 => (if y435.length + y442.length < 8796093022208 then (say_Event.j1 kj2 (y435 ++ y442) a0_0 a0_1 a0_2 a0_3 a0_4 a0_5 a0_6 a0_7 a0_8 a0_9 a0_10 l0_11 a0_12 a0_13 a0_14 a0_15 a0_16) else (none))))) else (if y435.length < 8796093022208 then (say_Event.j1 kj2 (y435 ++ [(⟨#[119, 97, 105, 116, 115]⟩ : ByteArray)]) a0_0 a0_1 a0_2 a0_3 a0_4 a0_5 a0_6 a0_7 a0_8 a0_9 a0_10 l0_11 a0_12 a0_13 a0_14 a0_15 a0_16) else (none)))) = some r := H
      have A9 := Aside0.mk A90
      clear A90
      obtain ⟨y435, hy435⟩ : ∃ y_ : List ByteArray, y_ = (([x3_2, t434] : List ByteArray)) := ⟨_, rfl⟩
      replace H : (if a0_7 = true then (if a0_8 = 0 then (if y435.length < 8796093022208 then (say_Event.j1 kj2 (y435 ++ [(⟨#[111, 107]⟩ : ByteArray)]) a0_0 a0_1 a0_2 a0_3 a0_4 a0_5 a0_6 a0_7 a0_8 a0_9 a0_10 l0_11 a0_12 a0_13 a0_14 a0_15 a0_16) else (none)) else ((say_digits.f (IntKind.u64.wrap (mx a0_8 0))).bind fun t441 => ((some (([(⟨#[101, 114, 114, 111, 114]⟩ : ByteArray), t441] : List ByteArray) : List ByteArray)).bind fun y442 => (if y435.length + y442.length < 8796093022208 then (say_Event.j1 kj2 (y435 ++ y442) a0_0 a0_1 a0_2 a0_3 a0_4 a0_5 a0_6 a0_7 a0_8 a0_9 a0_10 l0_11 a0_12 a0_13 a0_14 a0_15 a0_16) else (none))))) else (if y435.length < 8796093022208 then (say_Event.j1 kj2 (y435 ++ [(⟨#[119, 97, 105, 116, 115]⟩ : ByteArray)]) a0_0 a0_1 a0_2 a0_3 a0_4 a0_5 a0_6 a0_7 a0_8 a0_9 a0_10 l0_11 a0_12 a0_13 a0_14 a0_15 a0_16) else (none))) = some r := by first | (rw [hy435]; with_reducible exact H) | (have H2_ := (Option.bind_some _ _).symm.trans H; rw [hy435]; with_reducible exact H2_) | (have H2_ := (Option.bind_some _ _).symm.trans H; with_reducible exact H2_) | with_reducible exact H | (rw [hy435]; exact H) | exact H
      have Ny435 := Aside0.mk hy435
      clear hy435
      have HC10 := Aside0.mk H
      clear H
      have hcz11_0 : wc.cell? ⟨gb429, 0, none⟩ = some (.int .i64 a0_0) := (blk_cell BK429.out 0).trans rfl
      have hcz11_1 : wc.cell? ⟨gb429, 1, none⟩ = some (.int .i64 a0_1) := (blk_cell BK429.out 1).trans rfl
      have hcz11_2 : wc.cell? ⟨gb429, 2, none⟩ = some (.int .i64 a0_2) := (blk_cell BK429.out 2).trans rfl
      have hcz11_3 : wc.cell? ⟨gb429, 3, none⟩ = some (.int .i64 a0_3) := (blk_cell BK429.out 3).trans rfl
      have hcz11_4 : wc.cell? ⟨gb429, 4, none⟩ = some (.string a0_4) := (blk_cell BK429.out 4).trans rfl
      have hcz11_5 : wc.cell? ⟨gb429, 5, none⟩ = some (.string a0_5) := (blk_cell BK429.out 5).trans rfl
      have hcz11_6 : wc.cell? ⟨gb429, 6, none⟩ = some (.bool a0_6) := (blk_cell BK429.out 6).trans rfl
      have hcz11_7 : wc.cell? ⟨gb429, 7, none⟩ = some (.bool a0_7) := (blk_cell BK429.out 7).trans rfl
      have hcz11_8 : wc.cell? ⟨gb429, 8, none⟩ = some (.int .i64 a0_8) := (blk_cell BK429.out 8).trans rfl
      have hcz11_9 : wc.cell? ⟨gb429, 9, none⟩ = some (.bool a0_9) := (blk_cell BK429.out 9).trans rfl
      have hcz11_10 : wc.cell? ⟨gb429, 10, none⟩ = some (.int .i64 a0_10) := (blk_cell BK429.out 10).trans rfl
      have hcz11_11 : wc.cell? ⟨gb429, 11, none⟩ = some (.slice A0_11 l0_11.length c0_11) := (blk_cell BK429.out 11).trans rfl
      have hcz11_12 : wc.cell? ⟨gb429, 12, none⟩ = some (.int .i64 a0_12) := (blk_cell BK429.out 12).trans rfl
      have hcz11_13 : wc.cell? ⟨gb429, 13, none⟩ = some (.int .i64 a0_13) := (blk_cell BK429.out 13).trans rfl
      have hcz11_14 : wc.cell? ⟨gb429, 14, none⟩ = some (.int .i64 a0_14) := (blk_cell BK429.out 14).trans rfl
      have hcz11_15 : wc.cell? ⟨gb429, 15, none⟩ = some (.int .i64 a0_15) := (blk_cell BK429.out 15).trans rfl
      have hcz11_16 : wc.cell? ⟨gb429, 16, none⟩ = some (.int .i64 a0_16) := (blk_cell BK429.out 16).trans rfl
      have hfz11_0 := blk_frozen BK429.out 0
      have hfz11_1 := blk_frozen BK429.out 1
      have hfz11_2 := blk_frozen BK429.out 2
      have hfz11_3 := blk_frozen BK429.out 3
      have hfz11_4 := blk_frozen BK429.out 4
      have hfz11_5 := blk_frozen BK429.out 5
      have hfz11_6 := blk_frozen BK429.out 6
      have hfz11_7 := blk_frozen BK429.out 7
      have hfz11_8 := blk_frozen BK429.out 8
      have hfz11_9 := blk_frozen BK429.out 9
      have hfz11_10 := blk_frozen BK429.out 10
      have hfz11_11 := blk_frozen BK429.out 11
      have hfz11_12 := blk_frozen BK429.out 12
      have hfz11_13 := blk_frozen BK429.out 13
      have hfz11_14 := blk_frozen BK429.out 14
      have hfz11_15 := blk_frozen BK429.out 15
      have hfz11_16 := blk_frozen BK429.out 16
      go_upto_block 0 with (first | ((with_reducible refine gate_callee (f := 47) rfl ?_); refine goesL_ (some 21) rfl rfl Tryd.func47 (by kernel_rfl) rfl #[.int .u64 (IntKind.u64.wrap (ji8))] rfl (by (try simp only [List.map_toArray, List.map_cons, List.map_nil]); first | done | (simp only [hji8]; rfl) | rfl | (simp only [List.length_drop, List.length_take]; rfl)) ?_; (with_reducible refine (say_digits.calls (IntKind.u64.wrap (ji8)) t434 _ A9.out).mono ?_); rintro e w12 ⟨rfl, hb⟩; refine ⟨_, rfl, ?_⟩; have n0_ := Aside0.mk (blk_below (g := gb429) (o := .cells #[.int .i64 a0_0, .int .i64 a0_1, .int .i64 a0_2, .int .i64 a0_3, .string a0_4, .string a0_5, .bool a0_6, .bool a0_7, .int .i64 a0_8, .bool a0_9, .int .i64 a0_10, .slice A0_11 l0_11.length c0_11, .int .i64 a0_12, .int .i64 a0_13, .int .i64 a0_14, .int .i64 a0_15, .int .i64 a0_16] 50 (0, 0)) (by (with_reducible repeat (first | refine blk_drewN ?_ _ | refine blk_drew ?_ | refine blk_alloc ?_ _)); exact BK429.out) hb); have n1_ := Aside0.mk (below_step (by repeat (first | (with_reducible first | exact HB.out | apply below_alloc | apply pw_below_drewN | apply below_drew1 | refine below_set ?_ GE429.out) | exact HB.out)) hb); clear BK429; clear HB; have BK429 := n0_; have HB := n1_; clear n0_ n1_; (try clear hb); (try clear hb2); (try clear hk); (try clear hi)) | ((with_reducible refine gate_dst (N := 22) rfl ?_); refine Kd.R_lit Kd.string _ 9 ?hg (N := 22) ?hd (xs := ([x3_2, t434] : List ByteArray)) (inner := [.string x3_2, .string t434]) (ok := fun _ => True) (okp := fun _ => True) ?hr ?hp (fun _ hk => hk) trivial (Below.refl _ _) (Nat.le_refl _) (by simp) ?_; (case hd => rfl); (case hg => rfl); (case hr => first | (go_simp; done) | (go_simp; rfl)); (case hp => exact (Reps.one (show Kd.M Kd.string _ _ _ x3_2 [.string x3_2] from rfl) (Reps.one (show Kd.M Kd.string _ _ _ t434 [.string t434] from rfl) (Reps.none _ _)))); intro v436 w13 ho14 hb hg_ hnew_; clear hg_ hnew_; (first | rw [← Ny435.out] at ho14 | (simp only [Int.reduceToNat] at ho14; rw [← Ny435.out] at ho14)); have n0_ := Aside0.mk (Kd.R_lower ho14 (below_size (by repeat (first | (with_reducible first | exact HB.out | apply below_alloc | apply pw_below_drewN | apply below_drew1 | refine below_set ?_ GE429.out) | exact HB.out)))); have n1_ := Aside0.mk (blk_below (g := gb429) (o := .cells #[.int .i64 a0_0, .int .i64 a0_1, .int .i64 a0_2, .int .i64 a0_3, .string a0_4, .string a0_5, .bool a0_6, .bool a0_7, .int .i64 a0_8, .bool a0_9, .int .i64 a0_10, .slice A0_11 l0_11.length c0_11, .int .i64 a0_12, .int .i64 a0_13, .int .i64 a0_14, .int .i64 a0_15, .int .i64 a0_16] 50 (0, 0)) (by (with_reducible repeat (first | refine blk_drewN ?_ _ | refine blk_drew ?_ | refine blk_alloc ?_ _)); exact BK429.out) hb); have n2_ := Aside0.mk (below_step (by repeat (first | (with_reducible first | exact HB.out | apply below_alloc | apply pw_below_drewN | apply below_drew1 | refine below_set ?_ GE429.out) | exact HB.out)) hb); clear BK429; clear HB; have HO437 := n0_; have BK429 := n1_; have HB := n2_; clear n0_ n1_ n2_; clear hb ho14))
      (try simp only [Act.put, List.setIfInBounds_toArray, List.set_cons_zero, List.set_cons_succ])
      go_cut [5] (fun v5 wc => ∃ (kq : Nat) (x5_9 : List ByteArray), Aside0 (say_Event.j1 kq x5_9 a0_0 a0_1 a0_2 a0_3 a0_4 a0_5 a0_6 a0_7 a0_8 a0_9 a0_10 l0_11 a0_12 a0_13 a0_14 a0_15 a0_16 = some r) ∧ Aside0 (kq ≤ kj2) ∧ Aside0 (Kd.R Kd.string 9 wc w.heap.size (fun _ => True) v5 x5_9) ∧ Aside0 (wc.heap[gb429]? = some (.cells #[.int .i64 a0_0, .int .i64 a0_1, .int .i64 a0_2, .int .i64 a0_3, .string a0_4, .string a0_5, .bool a0_6, .bool a0_7, .int .i64 a0_8, .bool a0_9, .int .i64 a0_10, (.slice A0_11 l0_11.length c0_11), .int .i64 a0_12, .int .i64 a0_13, .int .i64 a0_14, .int .i64 a0_15, .int .i64 a0_16] 50 (0, 0))) ∧ Aside0 (Below w.heap.size w wc))
      case first =>
        have H := HC10.out
        clear HC10
        by_cases c15 : a0_7 = true
        · subst c15
          have H1 : (if a0_8 = 0 then (if y435.length < 8796093022208 then (say_Event.j1 kj2 (y435 ++ [(⟨#[111, 107]⟩ : ByteArray)]) a0_0 a0_1 a0_2 a0_3 a0_4 a0_5 a0_6 true a0_8 a0_9 a0_10 l0_11 a0_12 a0_13 a0_14 a0_15 a0_16) else (none)) else ((say_digits.f (IntKind.u64.wrap (mx a0_8 0))).bind fun t441 => ((some (([(⟨#[101, 114, 114, 111, 114]⟩ : ByteArray), t441] : List ByteArray) : List ByteArray)).bind fun y442 => (if y435.length + y442.length < 8796093022208 then (say_Event.j1 kj2 (y435 ++ y442) a0_0 a0_1 a0_2 a0_3 a0_4 a0_5 a0_6 true a0_8 a0_9 a0_10 l0_11 a0_12 a0_13 a0_14 a0_15 a0_16) else (none))))) = some r := by rw [if_pos rfl] at H; exact H
          clear H
          have H := H1
          clear H1
          by_cases c16 : a0_8 = 0
          · rw [if_pos c16] at H
            have c16b0 : (a0_8 == 0) = true := beq_iff_eq.mpr c16
            have c16b1 : (a0_8 != 0) = false := bne_eq_false_iff_eq.mpr c16
            clear c16
            (first | rw [c16b0] | (simp only [i64_w, i32_w]; rw [c16b0]) | skip)
            by_cases c17 : y435.length < 8796093022208
            · rw [if_pos c17] at H
              have LMc17 := Aside0.mk c17
              clear c17
              obtain ⟨y438, hy438⟩ : ∃ y_ : List ByteArray, y_ = (y435 ++ [(⟨#[111, 107]⟩ : ByteArray)]) := ⟨_, rfl⟩
              replace H : (say_Event.j1 kj2 y438 a0_0 a0_1 a0_2 a0_3 a0_4 a0_5 a0_6 true a0_8 a0_9 a0_10 l0_11 a0_12 a0_13 a0_14 a0_15 a0_16) = some r := by first | (rw [hy438]; with_reducible exact H) | (have H2_ := (Option.bind_some _ _).symm.trans H; rw [hy438]; with_reducible exact H2_) | (have H2_ := (Option.bind_some _ _).symm.trans H; with_reducible exact H2_) | with_reducible exact H | (rw [hy438]; exact H) | exact H
              have Ny438 := Aside0.mk hy438
              clear hy438
              have H' := Aside0.mk H
              clear H
              have hcz18_0 : w13.cell? ⟨gb429, 0, none⟩ = some (.int .i64 a0_0) := (blk_cell BK429.out 0).trans rfl
              have hcz18_1 : w13.cell? ⟨gb429, 1, none⟩ = some (.int .i64 a0_1) := (blk_cell BK429.out 1).trans rfl
              have hcz18_2 : w13.cell? ⟨gb429, 2, none⟩ = some (.int .i64 a0_2) := (blk_cell BK429.out 2).trans rfl
              have hcz18_3 : w13.cell? ⟨gb429, 3, none⟩ = some (.int .i64 a0_3) := (blk_cell BK429.out 3).trans rfl
              have hcz18_4 : w13.cell? ⟨gb429, 4, none⟩ = some (.string a0_4) := (blk_cell BK429.out 4).trans rfl
              have hcz18_5 : w13.cell? ⟨gb429, 5, none⟩ = some (.string a0_5) := (blk_cell BK429.out 5).trans rfl
              have hcz18_6 : w13.cell? ⟨gb429, 6, none⟩ = some (.bool a0_6) := (blk_cell BK429.out 6).trans rfl
              have hcz18_7 : w13.cell? ⟨gb429, 7, none⟩ = some (.bool true) := (blk_cell BK429.out 7).trans rfl
              have hcz18_8 : w13.cell? ⟨gb429, 8, none⟩ = some (.int .i64 a0_8) := (blk_cell BK429.out 8).trans rfl
              have hcz18_9 : w13.cell? ⟨gb429, 9, none⟩ = some (.bool a0_9) := (blk_cell BK429.out 9).trans rfl
              have hcz18_10 : w13.cell? ⟨gb429, 10, none⟩ = some (.int .i64 a0_10) := (blk_cell BK429.out 10).trans rfl
              have hcz18_11 : w13.cell? ⟨gb429, 11, none⟩ = some (.slice A0_11 l0_11.length c0_11) := (blk_cell BK429.out 11).trans rfl
              have hcz18_12 : w13.cell? ⟨gb429, 12, none⟩ = some (.int .i64 a0_12) := (blk_cell BK429.out 12).trans rfl
              have hcz18_13 : w13.cell? ⟨gb429, 13, none⟩ = some (.int .i64 a0_13) := (blk_cell BK429.out 13).trans rfl
              have hcz18_14 : w13.cell? ⟨gb429, 14, none⟩ = some (.int .i64 a0_14) := (blk_cell BK429.out 14).trans rfl
              have hcz18_15 : w13.cell? ⟨gb429, 15, none⟩ = some (.int .i64 a0_15) := (blk_cell BK429.out 15).trans rfl
              have hcz18_16 : w13.cell? ⟨gb429, 16, none⟩ = some (.int .i64 a0_16) := (blk_cell BK429.out 16).trans rfl
              have hfz18_0 := blk_frozen BK429.out 0
              have hfz18_1 := blk_frozen BK429.out 1
              have hfz18_2 := blk_frozen BK429.out 2
              have hfz18_3 := blk_frozen BK429.out 3
              have hfz18_4 := blk_frozen BK429.out 4
              have hfz18_5 := blk_frozen BK429.out 5
              have hfz18_6 := blk_frozen BK429.out 6
              have hfz18_7 := blk_frozen BK429.out 7
              have hfz18_8 := blk_frozen BK429.out 8
              have hfz18_9 := blk_frozen BK429.out 9
              have hfz18_10 := blk_frozen BK429.out 10
              have hfz18_11 := blk_frozen BK429.out 11
              have hfz18_12 := blk_frozen BK429.out 12
              have hfz18_13 := blk_frozen BK429.out 13
              have hfz18_14 := blk_frozen BK429.out 14
              have hfz18_15 := blk_frozen BK429.out 15
              have hfz18_16 := blk_frozen BK429.out 16
              go_wp2_with (first | ((with_reducible refine gate_builtin (b := .append) (xs := #[.tmp 23, .tmp 24]) rfl ?_); at_builtin; refine Kd.R_append Kd.string (w0 := w) w.heap.size rfl (.tmp 23) (.tmp 24) 34 9 (.string ⟨#[]⟩) 16 rfl Tryd.underlying34 info9 rfl (by decide) (by omega) v436 y435 (⟨#[111, 107]⟩ : ByteArray) [.string (⟨#[111, 107]⟩ : ByteArray)] (fun _ => True) (fun _ => False) rfl rfl ?aP (fun _ hk => hk.elim) ?aF ?aO ?aB ?aS ?aL ?_; (case aP => exact rfl); (case aB => exact (by repeat (first | (with_reducible first | exact HB.out | apply below_alloc | apply pw_below_drewN | apply below_drew1 | refine below_set ?_ GE429.out) | exact HB.out))); (case aF => exact (fun _ _ => trivial)); (case aO => exact (by (with_reducible repeat (first | apply Kd.R_alloc | apply Kd.R_drewN | apply Kd.R_drew)); exact HO437.out)); (case aS => exact (below_size (by repeat (first | (with_reducible first | exact HB.out | apply below_alloc | apply pw_below_drewN | apply below_drew1 | refine below_set ?_ GE429.out) | exact HB.out)))); (case aL => have := LMc17.out; omega); intro v439 w19 ho hb hg hat; rw [← Ny438.out] at ho; have n0_ := Aside0.mk (blk_grown (g := gb429) (o := .cells #[.int .i64 a0_0, .int .i64 a0_1, .int .i64 a0_2, .int .i64 a0_3, .string a0_4, .string a0_5, .bool a0_6, .bool true, .int .i64 a0_8, .bool a0_9, .int .i64 a0_10, .slice A0_11 l0_11.length c0_11, .int .i64 a0_12, .int .i64 a0_13, .int .i64 a0_14, .int .i64 a0_15, .int .i64 a0_16] 50 (0, 0)) (by (with_reducible repeat (first | refine blk_drewN ?_ _ | refine blk_drew ?_ | refine blk_alloc ?_ _)); exact BK429.out) hg (Kd.R_ne HO437.out BK429.out (by decide))); have n1_ := Aside0.mk (hb); have n2_ := Aside0.mk (ho); clear BK429; clear HB; clear HO437; have BK429 := n0_; have HB := n1_; have HO440 := n2_; clear n0_ n1_ n2_; clear ho hb hg hat))
              go_meet
              case rel => exact ⟨_, (y438), H', ⟨by have := HJ2.out; first | omega | exact Nat.le_refl _⟩, ⟨by (with_reducible repeat (first | apply Kd.R_alloc | apply Kd.R_drewN | apply Kd.R_drew)); exact HO440.out⟩, ⟨by (with_reducible repeat (first | refine blk_drewN ?_ _ | refine blk_drew ?_ | refine blk_alloc ?_ _)); exact BK429.out⟩, ⟨by repeat (first | (with_reducible first | exact HB.out | apply below_alloc | apply pw_below_drewN | apply below_drew1 | refine below_set ?_ GE429.out) | exact HB.out)⟩⟩
            · rw [if_neg c17] at H
              exact absurd H (by simp)
          · rw [if_neg c16] at H
            have c16b0 : (a0_8 == 0) = false := beq_eq_false_iff_ne.mpr c16
            have c16b1 : (a0_8 != 0) = true := bne_iff_ne.mpr c16
            (first | rw [c16b0] | (simp only [i64_w, i32_w]; rw [c16b0]) | skip)
            obtain ⟨ji20, hji20⟩ : ∃ j_ : Int, (mx a0_8 0) = j_ := ⟨_, rfl⟩
            replace H : ((say_digits.f (IntKind.u64.wrap (ji20))).bind fun t441 => ((some (([(⟨#[101, 114, 114, 111, 114]⟩ : ByteArray), t441] : List ByteArray) : List ByteArray)).bind fun y442 => (if y435.length + y442.length < 8796093022208 then (say_Event.j1 kj2 (y435 ++ y442) a0_0 a0_1 a0_2 a0_3 a0_4 a0_5 a0_6 true a0_8 a0_9 a0_10 l0_11 a0_12 a0_13 a0_14 a0_15 a0_16) else (none)))) = some r := by first | (rw [hji20] at H; exact H) | (simp only [hji20] at H ⊢; exact H)
            have hji20_ : (if a0_8 < 0 then 0 else a0_8) = ji20 := hji20
            replace H := Option.bind_eq_some_iff.mp H
            obtain ⟨t441, A210, H⟩ := H
            replace H : ((some (([(⟨#[101, 114, 114, 111, 114]⟩ : ByteArray), t441] : List ByteArray) : List ByteArray)).bind fun y442 => (if y435.length + y442.length < 8796093022208 then (say_Event.j1 kj2 (y435 ++ y442) a0_0 a0_1 a0_2 a0_3 a0_4 a0_5 a0_6 true a0_8 a0_9 a0_10 l0_11 a0_12 a0_13 a0_14 a0_15 a0_16) else (none))) = some r := H
            have A21 := Aside0.mk A210
            clear A210
            obtain ⟨y442, hy442⟩ : ∃ y_ : List ByteArray, y_ = (([(⟨#[101, 114, 114, 111, 114]⟩ : ByteArray), t441] : List ByteArray)) := ⟨_, rfl⟩
            replace H : (if y435.length + y442.length < 8796093022208 then (say_Event.j1 kj2 (y435 ++ y442) a0_0 a0_1 a0_2 a0_3 a0_4 a0_5 a0_6 true a0_8 a0_9 a0_10 l0_11 a0_12 a0_13 a0_14 a0_15 a0_16) else (none)) = some r := by first | (rw [hy442]; with_reducible exact H) | (have H2_ := (Option.bind_some _ _).symm.trans H; rw [hy442]; with_reducible exact H2_) | (have H2_ := (Option.bind_some _ _).symm.trans H; with_reducible exact H2_) | with_reducible exact H | (rw [hy442]; exact H) | exact H
            have Ny442 := Aside0.mk hy442
            clear hy442
            by_cases c22 : y435.length + y442.length < 8796093022208
            · rw [if_pos c22] at H
              have LMc22 := Aside0.mk c22
              clear c22
              obtain ⟨y445, hy445⟩ : ∃ y_ : List ByteArray, y_ = (y435 ++ y442) := ⟨_, rfl⟩
              replace H : (say_Event.j1 kj2 y445 a0_0 a0_1 a0_2 a0_3 a0_4 a0_5 a0_6 true a0_8 a0_9 a0_10 l0_11 a0_12 a0_13 a0_14 a0_15 a0_16) = some r := by first | (rw [hy445]; with_reducible exact H) | (have H2_ := (Option.bind_some _ _).symm.trans H; rw [hy445]; with_reducible exact H2_) | (have H2_ := (Option.bind_some _ _).symm.trans H; with_reducible exact H2_) | with_reducible exact H | (rw [hy445]; exact H) | exact H
              have Ny445 := Aside0.mk hy445
              clear hy445
              have H' := Aside0.mk H
              clear H
              have hcz23_0 : w13.cell? ⟨gb429, 0, none⟩ = some (.int .i64 a0_0) := (blk_cell BK429.out 0).trans rfl
              have hcz23_1 : w13.cell? ⟨gb429, 1, none⟩ = some (.int .i64 a0_1) := (blk_cell BK429.out 1).trans rfl
              have hcz23_2 : w13.cell? ⟨gb429, 2, none⟩ = some (.int .i64 a0_2) := (blk_cell BK429.out 2).trans rfl
              have hcz23_3 : w13.cell? ⟨gb429, 3, none⟩ = some (.int .i64 a0_3) := (blk_cell BK429.out 3).trans rfl
              have hcz23_4 : w13.cell? ⟨gb429, 4, none⟩ = some (.string a0_4) := (blk_cell BK429.out 4).trans rfl
              have hcz23_5 : w13.cell? ⟨gb429, 5, none⟩ = some (.string a0_5) := (blk_cell BK429.out 5).trans rfl
              have hcz23_6 : w13.cell? ⟨gb429, 6, none⟩ = some (.bool a0_6) := (blk_cell BK429.out 6).trans rfl
              have hcz23_7 : w13.cell? ⟨gb429, 7, none⟩ = some (.bool true) := (blk_cell BK429.out 7).trans rfl
              have hcz23_8 : w13.cell? ⟨gb429, 8, none⟩ = some (.int .i64 a0_8) := (blk_cell BK429.out 8).trans rfl
              have hcz23_9 : w13.cell? ⟨gb429, 9, none⟩ = some (.bool a0_9) := (blk_cell BK429.out 9).trans rfl
              have hcz23_10 : w13.cell? ⟨gb429, 10, none⟩ = some (.int .i64 a0_10) := (blk_cell BK429.out 10).trans rfl
              have hcz23_11 : w13.cell? ⟨gb429, 11, none⟩ = some (.slice A0_11 l0_11.length c0_11) := (blk_cell BK429.out 11).trans rfl
              have hcz23_12 : w13.cell? ⟨gb429, 12, none⟩ = some (.int .i64 a0_12) := (blk_cell BK429.out 12).trans rfl
              have hcz23_13 : w13.cell? ⟨gb429, 13, none⟩ = some (.int .i64 a0_13) := (blk_cell BK429.out 13).trans rfl
              have hcz23_14 : w13.cell? ⟨gb429, 14, none⟩ = some (.int .i64 a0_14) := (blk_cell BK429.out 14).trans rfl
              have hcz23_15 : w13.cell? ⟨gb429, 15, none⟩ = some (.int .i64 a0_15) := (blk_cell BK429.out 15).trans rfl
              have hcz23_16 : w13.cell? ⟨gb429, 16, none⟩ = some (.int .i64 a0_16) := (blk_cell BK429.out 16).trans rfl
              have hfz23_0 := blk_frozen BK429.out 0
              have hfz23_1 := blk_frozen BK429.out 1
              have hfz23_2 := blk_frozen BK429.out 2
              have hfz23_3 := blk_frozen BK429.out 3
              have hfz23_4 := blk_frozen BK429.out 4
              have hfz23_5 := blk_frozen BK429.out 5
              have hfz23_6 := blk_frozen BK429.out 6
              have hfz23_7 := blk_frozen BK429.out 7
              have hfz23_8 := blk_frozen BK429.out 8
              have hfz23_9 := blk_frozen BK429.out 9
              have hfz23_10 := blk_frozen BK429.out 10
              have hfz23_11 := blk_frozen BK429.out 11
              have hfz23_12 := blk_frozen BK429.out 12
              have hfz23_13 := blk_frozen BK429.out 13
              have hfz23_14 := blk_frozen BK429.out 14
              have hfz23_15 := blk_frozen BK429.out 15
              have hfz23_16 := blk_frozen BK429.out 16
              go_wp2_with (first | ((with_reducible refine gate_callee (f := 47) rfl ?_); refine goesL_ (some 42) rfl rfl Tryd.func47 (by kernel_rfl) rfl #[.int .u64 (IntKind.u64.wrap (ji20))] rfl (by (try simp only [List.map_toArray, List.map_cons, List.map_nil]); first | done | (simp only [hji20]; rfl) | rfl | (simp only [List.length_drop, List.length_take]; rfl)) ?_; (with_reducible refine (say_digits.calls (IntKind.u64.wrap (ji20)) t441 _ A21.out).mono ?_); rintro e w24 ⟨rfl, hb⟩; refine ⟨_, rfl, ?_⟩; have n0_ := Aside0.mk (Kd.R_below (by (with_reducible repeat (first | apply Kd.R_alloc | apply Kd.R_drewN | apply Kd.R_drew)); exact HO437.out) hb); have n1_ := Aside0.mk (blk_below (g := gb429) (o := .cells #[.int .i64 a0_0, .int .i64 a0_1, .int .i64 a0_2, .int .i64 a0_3, .string a0_4, .string a0_5, .bool a0_6, .bool true, .int .i64 a0_8, .bool a0_9, .int .i64 a0_10, .slice A0_11 l0_11.length c0_11, .int .i64 a0_12, .int .i64 a0_13, .int .i64 a0_14, .int .i64 a0_15, .int .i64 a0_16] 50 (0, 0)) (by (with_reducible repeat (first | refine blk_drewN ?_ _ | refine blk_drew ?_ | refine blk_alloc ?_ _)); exact BK429.out) hb); have n2_ := Aside0.mk (below_step (by repeat (first | (with_reducible first | exact HB.out | apply below_alloc | apply pw_below_drewN | apply below_drew1 | refine below_set ?_ GE429.out) | exact HB.out)) hb); clear HO437; clear BK429; clear HB; have HO437 := n0_; have BK429 := n1_; have HB := n2_; clear n0_ n1_ n2_; (try clear hb); (try clear hb2); (try clear hk); (try clear hi)) | ((with_reducible refine gate_dst (N := 43) rfl ?_); refine Kd.R_lit Kd.string _ 9 ?hg (N := 43) ?hd (xs := ([(⟨#[101, 114, 114, 111, 114]⟩ : ByteArray), t441] : List ByteArray)) (inner := [.string (⟨#[101, 114, 114, 111, 114]⟩ : ByteArray), .string t441]) (ok := fun _ => True) (okp := fun _ => True) ?hr ?hp (fun _ hk => hk) trivial (Below.refl _ _) (Nat.le_refl _) (by simp) ?_; (case hd => rfl); (case hg => rfl); (case hr => first | (go_simp; done) | (go_simp; rfl)); (case hp => exact (Reps.one (show Kd.M Kd.string _ _ _ (⟨#[101, 114, 114, 111, 114]⟩ : ByteArray) [.string (⟨#[101, 114, 114, 111, 114]⟩ : ByteArray)] from rfl) (Reps.one (show Kd.M Kd.string _ _ _ t441 [.string t441] from rfl) (Reps.none _ _)))); intro v443 w25 ho26 hb hg_ hnew_; clear hg_ hnew_; (first | rw [← Ny442.out] at ho26 | (simp only [Int.reduceToNat] at ho26; rw [← Ny442.out] at ho26)); have n0_ := Aside0.mk (Kd.R_elder' (by (with_reducible repeat (first | apply Kd.R_alloc | apply Kd.R_drewN | apply Kd.R_drew)); exact HO437.out) (Kd.R_base ho26) hb); have n1_ := Aside0.mk (Kd.R_lower (Kd.R_new' ho26 (Kd.R_lt (by (with_reducible repeat (first | apply Kd.R_alloc | apply Kd.R_drewN | apply Kd.R_drew)); exact HO437.out))) (below_size (by repeat (first | (with_reducible first | exact HB.out | apply below_alloc | apply pw_below_drewN | apply below_drew1 | refine below_set ?_ GE429.out) | exact HB.out)))); have n2_ := Aside0.mk (blk_below (g := gb429) (o := .cells #[.int .i64 a0_0, .int .i64 a0_1, .int .i64 a0_2, .int .i64 a0_3, .string a0_4, .string a0_5, .bool a0_6, .bool true, .int .i64 a0_8, .bool a0_9, .int .i64 a0_10, .slice A0_11 l0_11.length c0_11, .int .i64 a0_12, .int .i64 a0_13, .int .i64 a0_14, .int .i64 a0_15, .int .i64 a0_16] 50 (0, 0)) (by (with_reducible repeat (first | refine blk_drewN ?_ _ | refine blk_drew ?_ | refine blk_alloc ?_ _)); exact BK429.out) hb); have n3_ := Aside0.mk (below_step (by repeat (first | (with_reducible first | exact HB.out | apply below_alloc | apply pw_below_drewN | apply below_drew1 | refine below_set ?_ GE429.out) | exact HB.out)) hb); clear HO437; clear BK429; clear HB; have HO437 := n0_; have HO444 := n1_; have BK429 := n2_; have HB := n3_; clear n0_ n1_ n2_ n3_; clear hb ho26; obtain ⟨Ao28, co28, eo28⟩ := Kd.R_slice HO444.out; subst eo28) | ((with_reducible refine gate_builtin (b := .append) (xs := #[.tmp 37, .tmp 43]) rfl ?_); at_builtin; refine Kd.R_append_rows Kd.string (w0 := w) w.heap.size rfl (.tmp 37) (.tmp 43) 34 9 (.string ⟨#[]⟩) 16 rfl Tryd.underlying34 info9 rfl (by decide) (by omega) v436 y435 y442 _ _ _ (fun k_ => some k_ ≠ (.slice Ao28 y442.length co28 : Value).ownBlock) (fun _ => False) rfl rfl ?aO ?aR (fun _ _ h => h) (fun _ h => h.elim) ?aF ?aB ?aS ?aL ?_; (case aR => repeat (first | exact (Kd.R_reads' HO444.out).2.2 | (with_reducible refine Kd.C_alloc ?_ _) | (with_reducible refine Kd.C_drewN ?_ _) | (with_reducible refine Kd.C_drew ?_))); (case aB => exact (by repeat (first | (with_reducible first | exact HB.out | apply below_alloc | apply pw_below_drewN | apply below_drew1 | refine below_set ?_ GE429.out) | exact HB.out))); (case aF => exact (fun k_ hk => Kd.fresh' (Kd.R_lt (by (with_reducible repeat (first | apply Kd.R_alloc | apply Kd.R_drewN | apply Kd.R_drew)); exact HO444.out)) k_ hk)); (case aO => exact (by (with_reducible repeat (first | apply Kd.R_alloc | apply Kd.R_drewN | apply Kd.R_drew)); exact Kd.R_mono HO437.out (fun _ hk => hk.2))); (case aS => exact (below_size (by repeat (first | (with_reducible first | exact HB.out | apply below_alloc | apply pw_below_drewN | apply below_drew1 | refine below_set ?_ GE429.out) | exact HB.out)))); (case aL => have := LMc22.out; omega); intro v446 w27 ho hb hg hat; rw [← Ny445.out] at ho; have n0_ := Aside0.mk (blk_grown (g := gb429) (o := .cells #[.int .i64 a0_0, .int .i64 a0_1, .int .i64 a0_2, .int .i64 a0_3, .string a0_4, .string a0_5, .bool a0_6, .bool true, .int .i64 a0_8, .bool a0_9, .int .i64 a0_10, .slice A0_11 l0_11.length c0_11, .int .i64 a0_12, .int .i64 a0_13, .int .i64 a0_14, .int .i64 a0_15, .int .i64 a0_16] 50 (0, 0)) (by (with_reducible repeat (first | refine blk_drewN ?_ _ | refine blk_drew ?_ | refine blk_alloc ?_ _)); exact BK429.out) hg (Kd.R_ne HO437.out BK429.out (by decide))); have n1_ := Aside0.mk (Kd.R_after (ok := (fun _ => True)) (by (with_reducible repeat (first | apply Kd.R_alloc | apply Kd.R_drewN | apply Kd.R_drew)); exact HO444.out) hg hat); have n2_ := Aside0.mk (hb); have n3_ := Aside0.mk (ho); clear BK429; clear HO444; clear HB; clear HO437; have BK429 := n0_; have HO444 := n1_; have HB := n2_; have HO447 := n3_; clear n0_ n1_ n2_ n3_; clear ho hb hg hat))
              go_meet
              case rel => exact ⟨_, (y445), H', ⟨by have := HJ2.out; first | omega | exact Nat.le_refl _⟩, ⟨by (with_reducible repeat (first | apply Kd.R_alloc | apply Kd.R_drewN | apply Kd.R_drew)); exact Kd.R_mono HO447.out (fun _ hk => trivial)⟩, ⟨by (with_reducible repeat (first | refine blk_drewN ?_ _ | refine blk_drew ?_ | refine blk_alloc ?_ _)); exact BK429.out⟩, ⟨by repeat (first | (with_reducible first | exact HB.out | apply below_alloc | apply pw_below_drewN | apply below_drew1 | refine below_set ?_ GE429.out) | exact HB.out)⟩⟩
            · rw [if_neg c22] at H
              exact absurd H (by simp)
        · replace c15 := Bool.eq_false_iff.mpr c15
          subst c15
          have H1 : (if y435.length < 8796093022208 then (say_Event.j1 kj2 (y435 ++ [(⟨#[119, 97, 105, 116, 115]⟩ : ByteArray)]) a0_0 a0_1 a0_2 a0_3 a0_4 a0_5 a0_6 false a0_8 a0_9 a0_10 l0_11 a0_12 a0_13 a0_14 a0_15 a0_16) else (none)) = some r := by rw [if_neg (show ¬ (false = true) by decide)] at H; exact H
          clear H
          have H := H1
          clear H1
          by_cases c29 : y435.length < 8796093022208
          · rw [if_pos c29] at H
            have LMc29 := Aside0.mk c29
            clear c29
            obtain ⟨y448, hy448⟩ : ∃ y_ : List ByteArray, y_ = (y435 ++ [(⟨#[119, 97, 105, 116, 115]⟩ : ByteArray)]) := ⟨_, rfl⟩
            replace H : (say_Event.j1 kj2 y448 a0_0 a0_1 a0_2 a0_3 a0_4 a0_5 a0_6 false a0_8 a0_9 a0_10 l0_11 a0_12 a0_13 a0_14 a0_15 a0_16) = some r := by first | (rw [hy448]; with_reducible exact H) | (have H2_ := (Option.bind_some _ _).symm.trans H; rw [hy448]; with_reducible exact H2_) | (have H2_ := (Option.bind_some _ _).symm.trans H; with_reducible exact H2_) | with_reducible exact H | (rw [hy448]; exact H) | exact H
            have Ny448 := Aside0.mk hy448
            clear hy448
            have H' := Aside0.mk H
            clear H
            have hcz30_0 : w13.cell? ⟨gb429, 0, none⟩ = some (.int .i64 a0_0) := (blk_cell BK429.out 0).trans rfl
            have hcz30_1 : w13.cell? ⟨gb429, 1, none⟩ = some (.int .i64 a0_1) := (blk_cell BK429.out 1).trans rfl
            have hcz30_2 : w13.cell? ⟨gb429, 2, none⟩ = some (.int .i64 a0_2) := (blk_cell BK429.out 2).trans rfl
            have hcz30_3 : w13.cell? ⟨gb429, 3, none⟩ = some (.int .i64 a0_3) := (blk_cell BK429.out 3).trans rfl
            have hcz30_4 : w13.cell? ⟨gb429, 4, none⟩ = some (.string a0_4) := (blk_cell BK429.out 4).trans rfl
            have hcz30_5 : w13.cell? ⟨gb429, 5, none⟩ = some (.string a0_5) := (blk_cell BK429.out 5).trans rfl
            have hcz30_6 : w13.cell? ⟨gb429, 6, none⟩ = some (.bool a0_6) := (blk_cell BK429.out 6).trans rfl
            have hcz30_7 : w13.cell? ⟨gb429, 7, none⟩ = some (.bool false) := (blk_cell BK429.out 7).trans rfl
            have hcz30_8 : w13.cell? ⟨gb429, 8, none⟩ = some (.int .i64 a0_8) := (blk_cell BK429.out 8).trans rfl
            have hcz30_9 : w13.cell? ⟨gb429, 9, none⟩ = some (.bool a0_9) := (blk_cell BK429.out 9).trans rfl
            have hcz30_10 : w13.cell? ⟨gb429, 10, none⟩ = some (.int .i64 a0_10) := (blk_cell BK429.out 10).trans rfl
            have hcz30_11 : w13.cell? ⟨gb429, 11, none⟩ = some (.slice A0_11 l0_11.length c0_11) := (blk_cell BK429.out 11).trans rfl
            have hcz30_12 : w13.cell? ⟨gb429, 12, none⟩ = some (.int .i64 a0_12) := (blk_cell BK429.out 12).trans rfl
            have hcz30_13 : w13.cell? ⟨gb429, 13, none⟩ = some (.int .i64 a0_13) := (blk_cell BK429.out 13).trans rfl
            have hcz30_14 : w13.cell? ⟨gb429, 14, none⟩ = some (.int .i64 a0_14) := (blk_cell BK429.out 14).trans rfl
            have hcz30_15 : w13.cell? ⟨gb429, 15, none⟩ = some (.int .i64 a0_15) := (blk_cell BK429.out 15).trans rfl
            have hcz30_16 : w13.cell? ⟨gb429, 16, none⟩ = some (.int .i64 a0_16) := (blk_cell BK429.out 16).trans rfl
            have hfz30_0 := blk_frozen BK429.out 0
            have hfz30_1 := blk_frozen BK429.out 1
            have hfz30_2 := blk_frozen BK429.out 2
            have hfz30_3 := blk_frozen BK429.out 3
            have hfz30_4 := blk_frozen BK429.out 4
            have hfz30_5 := blk_frozen BK429.out 5
            have hfz30_6 := blk_frozen BK429.out 6
            have hfz30_7 := blk_frozen BK429.out 7
            have hfz30_8 := blk_frozen BK429.out 8
            have hfz30_9 := blk_frozen BK429.out 9
            have hfz30_10 := blk_frozen BK429.out 10
            have hfz30_11 := blk_frozen BK429.out 11
            have hfz30_12 := blk_frozen BK429.out 12
            have hfz30_13 := blk_frozen BK429.out 13
            have hfz30_14 := blk_frozen BK429.out 14
            have hfz30_15 := blk_frozen BK429.out 15
            have hfz30_16 := blk_frozen BK429.out 16
            go_wp2_with (first | ((with_reducible refine gate_builtin (b := .append) (xs := #[.tmp 30, .tmp 31]) rfl ?_); at_builtin; refine Kd.R_append Kd.string (w0 := w) w.heap.size rfl (.tmp 30) (.tmp 31) 34 9 (.string ⟨#[]⟩) 16 rfl Tryd.underlying34 info9 rfl (by decide) (by omega) v436 y435 (⟨#[119, 97, 105, 116, 115]⟩ : ByteArray) [.string (⟨#[119, 97, 105, 116, 115]⟩ : ByteArray)] (fun _ => True) (fun _ => False) rfl rfl ?aP (fun _ hk => hk.elim) ?aF ?aO ?aB ?aS ?aL ?_; (case aP => exact rfl); (case aB => exact (by repeat (first | (with_reducible first | exact HB.out | apply below_alloc | apply pw_below_drewN | apply below_drew1 | refine below_set ?_ GE429.out) | exact HB.out))); (case aF => exact (fun _ _ => trivial)); (case aO => exact (by (with_reducible repeat (first | apply Kd.R_alloc | apply Kd.R_drewN | apply Kd.R_drew)); exact HO437.out)); (case aS => exact (below_size (by repeat (first | (with_reducible first | exact HB.out | apply below_alloc | apply pw_below_drewN | apply below_drew1 | refine below_set ?_ GE429.out) | exact HB.out)))); (case aL => have := LMc29.out; omega); intro v449 w31 ho hb hg hat; rw [← Ny448.out] at ho; have n0_ := Aside0.mk (blk_grown (g := gb429) (o := .cells #[.int .i64 a0_0, .int .i64 a0_1, .int .i64 a0_2, .int .i64 a0_3, .string a0_4, .string a0_5, .bool a0_6, .bool false, .int .i64 a0_8, .bool a0_9, .int .i64 a0_10, .slice A0_11 l0_11.length c0_11, .int .i64 a0_12, .int .i64 a0_13, .int .i64 a0_14, .int .i64 a0_15, .int .i64 a0_16] 50 (0, 0)) (by (with_reducible repeat (first | refine blk_drewN ?_ _ | refine blk_drew ?_ | refine blk_alloc ?_ _)); exact BK429.out) hg (Kd.R_ne HO437.out BK429.out (by decide))); have n1_ := Aside0.mk (hb); have n2_ := Aside0.mk (ho); clear BK429; clear HB; clear HO437; have BK429 := n0_; have HB := n1_; have HO450 := n2_; clear n0_ n1_ n2_; clear ho hb hg hat))
            go_meet
            case rel => exact ⟨_, (y448), H', ⟨by have := HJ2.out; first | omega | exact Nat.le_refl _⟩, ⟨by (with_reducible repeat (first | apply Kd.R_alloc | apply Kd.R_drewN | apply Kd.R_drew)); exact HO450.out⟩, ⟨by (with_reducible repeat (first | refine blk_drewN ?_ _ | refine blk_drew ?_ | refine blk_alloc ?_ _)); exact BK429.out⟩, ⟨by repeat (first | (with_reducible first | exact HB.out | apply below_alloc | apply pw_below_drewN | apply below_drew1 | refine below_set ?_ GE429.out) | exact HB.out)⟩⟩
          · rw [if_neg c29] at H
            exact absurd H (by simp)
      case rest =>
        clear HC10
        try clear c1
        try clear c2
        try clear p2
        try clear c3
        try clear c4
        try clear c7
        try clear c7b0
        try clear c7b1
        try clear c15
        try clear c16
        try clear c16b0
        try clear c16b1
        try clear c17
        try clear c22
        try clear c27
        try clear c29
        try clear hcz11_0
        try clear hcz11_1
        try clear hcz11_10
        try clear hcz11_11
        try clear hcz11_12
        try clear hcz11_13
        try clear hcz11_14
        try clear hcz11_15
        try clear hcz11_16
        try clear hcz11_2
        try clear hcz11_3
        try clear hcz11_4
        try clear hcz11_5
        try clear hcz11_6
        try clear hcz11_7
        try clear hcz11_8
        try clear hcz11_9
        try clear hcz18_0
        try clear hcz18_1
        try clear hcz18_10
        try clear hcz18_11
        try clear hcz18_12
        try clear hcz18_13
        try clear hcz18_14
        try clear hcz18_15
        try clear hcz18_16
        try clear hcz18_2
        try clear hcz18_3
        try clear hcz18_4
        try clear hcz18_5
        try clear hcz18_6
        try clear hcz18_7
        try clear hcz18_8
        try clear hcz18_9
        try clear hcz23_0
        try clear hcz23_1
        try clear hcz23_10
        try clear hcz23_11
        try clear hcz23_12
        try clear hcz23_13
        try clear hcz23_14
        try clear hcz23_15
        try clear hcz23_16
        try clear hcz23_2
        try clear hcz23_3
        try clear hcz23_4
        try clear hcz23_5
        try clear hcz23_6
        try clear hcz23_7
        try clear hcz23_8
        try clear hcz23_9
        try clear hcz30_0
        try clear hcz30_1
        try clear hcz30_10
        try clear hcz30_11
        try clear hcz30_12
        try clear hcz30_13
        try clear hcz30_14
        try clear hcz30_15
        try clear hcz30_16
        try clear hcz30_2
        try clear hcz30_3
        try clear hcz30_4
        try clear hcz30_5
        try clear hcz30_6
        try clear hcz30_7
        try clear hcz30_8
        try clear hcz30_9
        try clear hcz5_0
        try clear hcz5_1
        try clear hcz5_10
        try clear hcz5_11
        try clear hcz5_12
        try clear hcz5_13
        try clear hcz5_14
        try clear hcz5_15
        try clear hcz5_16
        try clear hcz5_2
        try clear hcz5_3
        try clear hcz5_4
        try clear hcz5_5
        try clear hcz5_6
        try clear hcz5_7
        try clear hcz5_8
        try clear hcz5_9
        try clear hfz11_0
        try clear hfz11_1
        try clear hfz11_10
        try clear hfz11_11
        try clear hfz11_12
        try clear hfz11_13
        try clear hfz11_14
        try clear hfz11_15
        try clear hfz11_16
        try clear hfz11_2
        try clear hfz11_3
        try clear hfz11_4
        try clear hfz11_5
        try clear hfz11_6
        try clear hfz11_7
        try clear hfz11_8
        try clear hfz11_9
        try clear hfz18_0
        try clear hfz18_1
        try clear hfz18_10
        try clear hfz18_11
        try clear hfz18_12
        try clear hfz18_13
        try clear hfz18_14
        try clear hfz18_15
        try clear hfz18_16
        try clear hfz18_2
        try clear hfz18_3
        try clear hfz18_4
        try clear hfz18_5
        try clear hfz18_6
        try clear hfz18_7
        try clear hfz18_8
        try clear hfz18_9
        try clear hfz23_0
        try clear hfz23_1
        try clear hfz23_10
        try clear hfz23_11
        try clear hfz23_12
        try clear hfz23_13
        try clear hfz23_14
        try clear hfz23_15
        try clear hfz23_16
        try clear hfz23_2
        try clear hfz23_3
        try clear hfz23_4
        try clear hfz23_5
        try clear hfz23_6
        try clear hfz23_7
        try clear hfz23_8
        try clear hfz23_9
        try clear hfz30_0
        try clear hfz30_1
        try clear hfz30_10
        try clear hfz30_11
        try clear hfz30_12
        try clear hfz30_13
        try clear hfz30_14
        try clear hfz30_15
        try clear hfz30_16
        try clear hfz30_2
        try clear hfz30_3
        try clear hfz30_4
        try clear hfz30_5
        try clear hfz30_6
        try clear hfz30_7
        try clear hfz30_8
        try clear hfz30_9
        try clear hfz5_0
        try clear hfz5_1
        try clear hfz5_10
        try clear hfz5_11
        try clear hfz5_12
        try clear hfz5_13
        try clear hfz5_14
        try clear hfz5_15
        try clear hfz5_16
        try clear hfz5_2
        try clear hfz5_3
        try clear hfz5_4
        try clear hfz5_5
        try clear hfz5_6
        try clear hfz5_7
        try clear hfz5_8
        try clear hfz5_9
        try clear p2
        obtain ⟨kq, x5_9, HA, HJ9, HO_5, BK429, HB⟩ := hcut
        cases kq with
        | zero => exact absurd HA.out (by simp [say_Event.j1])
        | succ kj9 =>
          have H := HA.out
          clear HA
          simp only [say_Event.j1] at H
          have HC32 := Aside0.mk H
          clear H
          have hcz33_0 : wc.cell? ⟨gb429, 0, none⟩ = some (.int .i64 a0_0) := (blk_cell BK429.out 0).trans rfl
          have hcz33_1 : wc.cell? ⟨gb429, 1, none⟩ = some (.int .i64 a0_1) := (blk_cell BK429.out 1).trans rfl
          have hcz33_2 : wc.cell? ⟨gb429, 2, none⟩ = some (.int .i64 a0_2) := (blk_cell BK429.out 2).trans rfl
          have hcz33_3 : wc.cell? ⟨gb429, 3, none⟩ = some (.int .i64 a0_3) := (blk_cell BK429.out 3).trans rfl
          have hcz33_4 : wc.cell? ⟨gb429, 4, none⟩ = some (.string a0_4) := (blk_cell BK429.out 4).trans rfl
          have hcz33_5 : wc.cell? ⟨gb429, 5, none⟩ = some (.string a0_5) := (blk_cell BK429.out 5).trans rfl
          have hcz33_6 : wc.cell? ⟨gb429, 6, none⟩ = some (.bool a0_6) := (blk_cell BK429.out 6).trans rfl
          have hcz33_7 : wc.cell? ⟨gb429, 7, none⟩ = some (.bool a0_7) := (blk_cell BK429.out 7).trans rfl
          have hcz33_8 : wc.cell? ⟨gb429, 8, none⟩ = some (.int .i64 a0_8) := (blk_cell BK429.out 8).trans rfl
          have hcz33_9 : wc.cell? ⟨gb429, 9, none⟩ = some (.bool a0_9) := (blk_cell BK429.out 9).trans rfl
          have hcz33_10 : wc.cell? ⟨gb429, 10, none⟩ = some (.int .i64 a0_10) := (blk_cell BK429.out 10).trans rfl
          have hcz33_11 : wc.cell? ⟨gb429, 11, none⟩ = some (.slice A0_11 l0_11.length c0_11) := (blk_cell BK429.out 11).trans rfl
          have hcz33_12 : wc.cell? ⟨gb429, 12, none⟩ = some (.int .i64 a0_12) := (blk_cell BK429.out 12).trans rfl
          have hcz33_13 : wc.cell? ⟨gb429, 13, none⟩ = some (.int .i64 a0_13) := (blk_cell BK429.out 13).trans rfl
          have hcz33_14 : wc.cell? ⟨gb429, 14, none⟩ = some (.int .i64 a0_14) := (blk_cell BK429.out 14).trans rfl
          have hcz33_15 : wc.cell? ⟨gb429, 15, none⟩ = some (.int .i64 a0_15) := (blk_cell BK429.out 15).trans rfl
          have hcz33_16 : wc.cell? ⟨gb429, 16, none⟩ = some (.int .i64 a0_16) := (blk_cell BK429.out 16).trans rfl
          have hfz33_0 := blk_frozen BK429.out 0
          have hfz33_1 := blk_frozen BK429.out 1
          have hfz33_2 := blk_frozen BK429.out 2
          have hfz33_3 := blk_frozen BK429.out 3
          have hfz33_4 := blk_frozen BK429.out 4
          have hfz33_5 := blk_frozen BK429.out 5
          have hfz33_6 := blk_frozen BK429.out 6
          have hfz33_7 := blk_frozen BK429.out 7
          have hfz33_8 := blk_frozen BK429.out 8
          have hfz33_9 := blk_frozen BK429.out 9
          have hfz33_10 := blk_frozen BK429.out 10
          have hfz33_11 := blk_frozen BK429.out 11
          have hfz33_12 := blk_frozen BK429.out 12
          have hfz33_13 := blk_frozen BK429.out 13
          have hfz33_14 := blk_frozen BK429.out 14
          have hfz33_15 := blk_frozen BK429.out 15
          have hfz33_16 := blk_frozen BK429.out 16
          go_upto_if 46 with (fail)
          go_cut [5] (fun v5 wc => ∃ (kq : Nat) (x5_31 : List ByteArray), Aside0 (say_Event.j2 kq x5_31 a0_0 a0_1 a0_2 a0_3 a0_4 a0_5 a0_6 a0_7 a0_8 a0_9 a0_10 l0_11 a0_12 a0_13 a0_14 a0_15 a0_16 = some r) ∧ Aside0 (kq ≤ kj9) ∧ Aside0 (Kd.R Kd.string 9 wc w.heap.size (fun _ => True) v5 x5_31) ∧ Aside0 (wc.heap[gb429]? = some (.cells #[.int .i64 a0_0, .int .i64 a0_1, .int .i64 a0_2, .int .i64 a0_3, .string a0_4, .string a0_5, .bool a0_6, .bool a0_7, .int .i64 a0_8, .bool a0_9, .int .i64 a0_10, (.slice A0_11 l0_11.length c0_11), .int .i64 a0_12, .int .i64 a0_13, .int .i64 a0_14, .int .i64 a0_15, .int .i64 a0_16] 50 (0, 0))) ∧ Aside0 (Below w.heap.size w wc))
          case first =>
            have H := HC32.out
            clear HC32
            by_cases c34 : a0_9 = true
            · subst c34
              have H1 : ((say_Word.f a0_5).bind fun t451 => (if x5_9.length < 8796093022208 then (say_Event.j2 kj9 (x5_9 ++ [t451]) a0_0 a0_1 a0_2 a0_3 a0_4 a0_5 a0_6 a0_7 a0_8 true a0_10 l0_11 a0_12 a0_13 a0_14 a0_15 a0_16) else (none))) = some r := by rw [if_pos rfl] at H; exact H
              clear H
              have H := H1
              clear H1
              replace H := Option.bind_eq_some_iff.mp H
              obtain ⟨t451, A350, H⟩ := H
              replace H : (if x5_9.length < 8796093022208 then (say_Event.j2 kj9 (x5_9 ++ [t451]) a0_0 a0_1 a0_2 a0_3 a0_4 a0_5 a0_6 a0_7 a0_8 true a0_10 l0_11 a0_12 a0_13 a0_14 a0_15 a0_16) else (none)) = some r := H
              have A35 := Aside0.mk A350
              clear A350
              by_cases c36 : x5_9.length < 8796093022208
              · rw [if_pos c36] at H
                have LMc36 := Aside0.mk c36
                clear c36
                obtain ⟨y452, hy452⟩ : ∃ y_ : List ByteArray, y_ = (x5_9 ++ [t451]) := ⟨_, rfl⟩
                replace H : (say_Event.j2 kj9 y452 a0_0 a0_1 a0_2 a0_3 a0_4 a0_5 a0_6 a0_7 a0_8 true a0_10 l0_11 a0_12 a0_13 a0_14 a0_15 a0_16) = some r := by first | (rw [hy452]; with_reducible exact H) | (have H2_ := (Option.bind_some _ _).symm.trans H; rw [hy452]; with_reducible exact H2_) | (have H2_ := (Option.bind_some _ _).symm.trans H; with_reducible exact H2_) | with_reducible exact H | (rw [hy452]; exact H) | exact H
                have Ny452 := Aside0.mk hy452
                clear hy452
                have H' := Aside0.mk H
                clear H
                have hcz37_0 : wc.cell? ⟨gb429, 0, none⟩ = some (.int .i64 a0_0) := (blk_cell BK429.out 0).trans rfl
                have hcz37_1 : wc.cell? ⟨gb429, 1, none⟩ = some (.int .i64 a0_1) := (blk_cell BK429.out 1).trans rfl
                have hcz37_2 : wc.cell? ⟨gb429, 2, none⟩ = some (.int .i64 a0_2) := (blk_cell BK429.out 2).trans rfl
                have hcz37_3 : wc.cell? ⟨gb429, 3, none⟩ = some (.int .i64 a0_3) := (blk_cell BK429.out 3).trans rfl
                have hcz37_4 : wc.cell? ⟨gb429, 4, none⟩ = some (.string a0_4) := (blk_cell BK429.out 4).trans rfl
                have hcz37_5 : wc.cell? ⟨gb429, 5, none⟩ = some (.string a0_5) := (blk_cell BK429.out 5).trans rfl
                have hcz37_6 : wc.cell? ⟨gb429, 6, none⟩ = some (.bool a0_6) := (blk_cell BK429.out 6).trans rfl
                have hcz37_7 : wc.cell? ⟨gb429, 7, none⟩ = some (.bool a0_7) := (blk_cell BK429.out 7).trans rfl
                have hcz37_8 : wc.cell? ⟨gb429, 8, none⟩ = some (.int .i64 a0_8) := (blk_cell BK429.out 8).trans rfl
                have hcz37_9 : wc.cell? ⟨gb429, 9, none⟩ = some (.bool true) := (blk_cell BK429.out 9).trans rfl
                have hcz37_10 : wc.cell? ⟨gb429, 10, none⟩ = some (.int .i64 a0_10) := (blk_cell BK429.out 10).trans rfl
                have hcz37_11 : wc.cell? ⟨gb429, 11, none⟩ = some (.slice A0_11 l0_11.length c0_11) := (blk_cell BK429.out 11).trans rfl
                have hcz37_12 : wc.cell? ⟨gb429, 12, none⟩ = some (.int .i64 a0_12) := (blk_cell BK429.out 12).trans rfl
                have hcz37_13 : wc.cell? ⟨gb429, 13, none⟩ = some (.int .i64 a0_13) := (blk_cell BK429.out 13).trans rfl
                have hcz37_14 : wc.cell? ⟨gb429, 14, none⟩ = some (.int .i64 a0_14) := (blk_cell BK429.out 14).trans rfl
                have hcz37_15 : wc.cell? ⟨gb429, 15, none⟩ = some (.int .i64 a0_15) := (blk_cell BK429.out 15).trans rfl
                have hcz37_16 : wc.cell? ⟨gb429, 16, none⟩ = some (.int .i64 a0_16) := (blk_cell BK429.out 16).trans rfl
                have hfz37_0 := blk_frozen BK429.out 0
                have hfz37_1 := blk_frozen BK429.out 1
                have hfz37_2 := blk_frozen BK429.out 2
                have hfz37_3 := blk_frozen BK429.out 3
                have hfz37_4 := blk_frozen BK429.out 4
                have hfz37_5 := blk_frozen BK429.out 5
                have hfz37_6 := blk_frozen BK429.out 6
                have hfz37_7 := blk_frozen BK429.out 7
                have hfz37_8 := blk_frozen BK429.out 8
                have hfz37_9 := blk_frozen BK429.out 9
                have hfz37_10 := blk_frozen BK429.out 10
                have hfz37_11 := blk_frozen BK429.out 11
                have hfz37_12 := blk_frozen BK429.out 12
                have hfz37_13 := blk_frozen BK429.out 13
                have hfz37_14 := blk_frozen BK429.out 14
                have hfz37_15 := blk_frozen BK429.out 15
                have hfz37_16 := blk_frozen BK429.out 16
                go_wp2_with (first | ((with_reducible refine gate_callee (f := 12) rfl ?_); refine goesL_ (some 50) rfl rfl Tryd.func12 (by kernel_rfl) rfl #[.string a0_5] rfl (by (try simp only [List.map_toArray, List.map_cons, List.map_nil]); first | done | rfl | (simp only [List.length_drop, List.length_take]; rfl)) ?_; (with_reducible refine (say_Word.calls a0_5 t451 _ A35.out).mono ?_); rintro e w38 ⟨rfl, hb⟩; refine ⟨_, rfl, ?_⟩; have n0_ := Aside0.mk (Kd.R_below (by (with_reducible repeat (first | apply Kd.R_alloc | apply Kd.R_drewN | apply Kd.R_drew)); exact HO_5.out) hb); have n1_ := Aside0.mk (blk_below (g := gb429) (o := .cells #[.int .i64 a0_0, .int .i64 a0_1, .int .i64 a0_2, .int .i64 a0_3, .string a0_4, .string a0_5, .bool a0_6, .bool a0_7, .int .i64 a0_8, .bool true, .int .i64 a0_10, .slice A0_11 l0_11.length c0_11, .int .i64 a0_12, .int .i64 a0_13, .int .i64 a0_14, .int .i64 a0_15, .int .i64 a0_16] 50 (0, 0)) (by (with_reducible repeat (first | refine blk_drewN ?_ _ | refine blk_drew ?_ | refine blk_alloc ?_ _)); exact BK429.out) hb); have n2_ := Aside0.mk (below_step (by repeat (first | (with_reducible first | exact HB.out | apply below_alloc | apply pw_below_drewN | apply below_drew1 | refine below_set ?_ GE429.out) | exact HB.out)) hb); clear HO_5; clear BK429; clear HB; have HO_5 := n0_; have BK429 := n1_; have HB := n2_; clear n0_ n1_ n2_; (try clear hb); (try clear hb2); (try clear hk); (try clear hi)) | ((with_reducible refine gate_builtin (b := .append) (xs := #[.tmp 47, .tmp 51]) rfl ?_); at_builtin; refine Kd.R_append Kd.string (w0 := w) w.heap.size rfl (.tmp 47) (.tmp 51) 34 9 (.string ⟨#[]⟩) 16 rfl Tryd.underlying34 info9 rfl (by decide) (by omega) u5 x5_9 t451 [.string t451] (fun _ => True) (fun _ => False) rfl rfl ?aP (fun _ hk => hk.elim) ?aF ?aO ?aB ?aS ?aL ?_; (case aP => exact rfl); (case aB => exact (by repeat (first | (with_reducible first | exact HB.out | apply below_alloc | apply pw_below_drewN | apply below_drew1 | refine below_set ?_ GE429.out) | exact HB.out))); (case aF => exact (fun _ _ => trivial)); (case aO => exact (by (with_reducible repeat (first | apply Kd.R_alloc | apply Kd.R_drewN | apply Kd.R_drew)); exact HO_5.out)); (case aS => exact (below_size (by repeat (first | (with_reducible first | exact HB.out | apply below_alloc | apply pw_below_drewN | apply below_drew1 | refine below_set ?_ GE429.out) | exact HB.out)))); (case aL => have := LMc36.out; omega); intro v453 w39 ho hb hg hat; rw [← Ny452.out] at ho; have n0_ := Aside0.mk (blk_grown (g := gb429) (o := .cells #[.int .i64 a0_0, .int .i64 a0_1, .int .i64 a0_2, .int .i64 a0_3, .string a0_4, .string a0_5, .bool a0_6, .bool a0_7, .int .i64 a0_8, .bool true, .int .i64 a0_10, .slice A0_11 l0_11.length c0_11, .int .i64 a0_12, .int .i64 a0_13, .int .i64 a0_14, .int .i64 a0_15, .int .i64 a0_16] 50 (0, 0)) (by (with_reducible repeat (first | refine blk_drewN ?_ _ | refine blk_drew ?_ | refine blk_alloc ?_ _)); exact BK429.out) hg (Kd.R_ne HO_5.out BK429.out (by decide))); have n1_ := Aside0.mk (hb); have n2_ := Aside0.mk (ho); clear BK429; clear HB; clear HO_5; have BK429 := n0_; have HB := n1_; have HO454 := n2_; clear n0_ n1_ n2_; clear ho hb hg hat))
                go_meet
                case rel => exact ⟨_, (y452), H', ⟨by have := HJ2.out; have := HJ9.out; first | omega | exact Nat.le_refl _⟩, ⟨by (with_reducible repeat (first | apply Kd.R_alloc | apply Kd.R_drewN | apply Kd.R_drew)); exact HO454.out⟩, ⟨by (with_reducible repeat (first | refine blk_drewN ?_ _ | refine blk_drew ?_ | refine blk_alloc ?_ _)); exact BK429.out⟩, ⟨by repeat (first | (with_reducible first | exact HB.out | apply below_alloc | apply pw_below_drewN | apply below_drew1 | refine below_set ?_ GE429.out) | exact HB.out)⟩⟩
              · rw [if_neg c36] at H
                exact absurd H (by simp)
            · replace c34 := Bool.eq_false_iff.mpr c34
              subst c34
              have H1 : (say_Event.j2 kj9 x5_9 a0_0 a0_1 a0_2 a0_3 a0_4 a0_5 a0_6 a0_7 a0_8 false a0_10 l0_11 a0_12 a0_13 a0_14 a0_15 a0_16) = some r := by rw [if_neg (show ¬ (false = true) by decide)] at H; exact H
              clear H
              have H := H1
              clear H1
              have H' := Aside0.mk H
              clear H
              go_wp2
              go_meet
              case rel => exact ⟨_, (x5_9), H', ⟨by have := HJ2.out; have := HJ9.out; first | omega | exact Nat.le_refl _⟩, ⟨by (with_reducible repeat (first | apply Kd.R_alloc | apply Kd.R_drewN | apply Kd.R_drew)); exact HO_5.out⟩, ⟨by (with_reducible repeat (first | refine blk_drewN ?_ _ | refine blk_drew ?_ | refine blk_alloc ?_ _)); exact BK429.out⟩, ⟨by repeat (first | (with_reducible first | exact HB.out | apply below_alloc | apply pw_below_drewN | apply below_drew1 | refine below_set ?_ GE429.out) | exact HB.out)⟩⟩
          case rest =>
            clear HC32
            try clear c1
            try clear c2
            try clear p2
            try clear c3
            try clear c4
            try clear c7
            try clear c7b0
            try clear c7b1
            try clear c12
            try clear c15
            try clear c16
            try clear c16b0
            try clear c16b1
            try clear c17
            try clear c22
            try clear c27
            try clear c29
            try clear c34
            try clear c36
            try clear hcz11_0
            try clear hcz11_1
            try clear hcz11_10
            try clear hcz11_11
            try clear hcz11_12
            try clear hcz11_13
            try clear hcz11_14
            try clear hcz11_15
            try clear hcz11_16
            try clear hcz11_2
            try clear hcz11_3
            try clear hcz11_4
            try clear hcz11_5
            try clear hcz11_6
            try clear hcz11_7
            try clear hcz11_8
            try clear hcz11_9
            try clear hcz18_0
            try clear hcz18_1
            try clear hcz18_10
            try clear hcz18_11
            try clear hcz18_12
            try clear hcz18_13
            try clear hcz18_14
            try clear hcz18_15
            try clear hcz18_16
            try clear hcz18_2
            try clear hcz18_3
            try clear hcz18_4
            try clear hcz18_5
            try clear hcz18_6
            try clear hcz18_7
            try clear hcz18_8
            try clear hcz18_9
            try clear hcz23_0
            try clear hcz23_1
            try clear hcz23_10
            try clear hcz23_11
            try clear hcz23_12
            try clear hcz23_13
            try clear hcz23_14
            try clear hcz23_15
            try clear hcz23_16
            try clear hcz23_2
            try clear hcz23_3
            try clear hcz23_4
            try clear hcz23_5
            try clear hcz23_6
            try clear hcz23_7
            try clear hcz23_8
            try clear hcz23_9
            try clear hcz30_0
            try clear hcz30_1
            try clear hcz30_10
            try clear hcz30_11
            try clear hcz30_12
            try clear hcz30_13
            try clear hcz30_14
            try clear hcz30_15
            try clear hcz30_16
            try clear hcz30_2
            try clear hcz30_3
            try clear hcz30_4
            try clear hcz30_5
            try clear hcz30_6
            try clear hcz30_7
            try clear hcz30_8
            try clear hcz30_9
            try clear hcz33_0
            try clear hcz33_1
            try clear hcz33_10
            try clear hcz33_11
            try clear hcz33_12
            try clear hcz33_13
            try clear hcz33_14
            try clear hcz33_15
            try clear hcz33_16
            try clear hcz33_2
            try clear hcz33_3
            try clear hcz33_4
            try clear hcz33_5
            try clear hcz33_6
            try clear hcz33_7
            try clear hcz33_8
            try clear hcz33_9
            try clear hcz37_0
            try clear hcz37_1
            try clear hcz37_10
            try clear hcz37_11
            try clear hcz37_12
            try clear hcz37_13
            try clear hcz37_14
            try clear hcz37_15
            try clear hcz37_16
            try clear hcz37_2
            try clear hcz37_3
            try clear hcz37_4
            try clear hcz37_5
            try clear hcz37_6
            try clear hcz37_7
            try clear hcz37_8
            try clear hcz37_9
            try clear hcz5_0
            try clear hcz5_1
            try clear hcz5_10
            try clear hcz5_11
            try clear hcz5_12
            try clear hcz5_13
            try clear hcz5_14
            try clear hcz5_15
            try clear hcz5_16
            try clear hcz5_2
            try clear hcz5_3
            try clear hcz5_4
            try clear hcz5_5
            try clear hcz5_6
            try clear hcz5_7
            try clear hcz5_8
            try clear hcz5_9
            try clear hfz11_0
            try clear hfz11_1
            try clear hfz11_10
            try clear hfz11_11
            try clear hfz11_12
            try clear hfz11_13
            try clear hfz11_14
            try clear hfz11_15
            try clear hfz11_16
            try clear hfz11_2
            try clear hfz11_3
            try clear hfz11_4
            try clear hfz11_5
            try clear hfz11_6
            try clear hfz11_7
            try clear hfz11_8
            try clear hfz11_9
            try clear hfz18_0
            try clear hfz18_1
            try clear hfz18_10
            try clear hfz18_11
            try clear hfz18_12
            try clear hfz18_13
            try clear hfz18_14
            try clear hfz18_15
            try clear hfz18_16
            try clear hfz18_2
            try clear hfz18_3
            try clear hfz18_4
            try clear hfz18_5
            try clear hfz18_6
            try clear hfz18_7
            try clear hfz18_8
            try clear hfz18_9
            try clear hfz23_0
            try clear hfz23_1
            try clear hfz23_10
            try clear hfz23_11
            try clear hfz23_12
            try clear hfz23_13
            try clear hfz23_14
            try clear hfz23_15
            try clear hfz23_16
            try clear hfz23_2
            try clear hfz23_3
            try clear hfz23_4
            try clear hfz23_5
            try clear hfz23_6
            try clear hfz23_7
            try clear hfz23_8
            try clear hfz23_9
            try clear hfz30_0
            try clear hfz30_1
            try clear hfz30_10
            try clear hfz30_11
            try clear hfz30_12
            try clear hfz30_13
            try clear hfz30_14
            try clear hfz30_15
            try clear hfz30_16
            try clear hfz30_2
            try clear hfz30_3
            try clear hfz30_4
            try clear hfz30_5
            try clear hfz30_6
            try clear hfz30_7
            try clear hfz30_8
            try clear hfz30_9
            try clear hfz33_0
            try clear hfz33_1
            try clear hfz33_10
            try clear hfz33_11
            try clear hfz33_12
            try clear hfz33_13
            try clear hfz33_14
            try clear hfz33_15
            try clear hfz33_16
            try clear hfz33_2
            try clear hfz33_3
            try clear hfz33_4
            try clear hfz33_5
            try clear hfz33_6
            try clear hfz33_7
            try clear hfz33_8
            try clear hfz33_9
            try clear hfz37_0
            try clear hfz37_1
            try clear hfz37_10
            try clear hfz37_11
            try clear hfz37_12
            try clear hfz37_13
            try clear hfz37_14
            try clear hfz37_15
            try clear hfz37_16
            try clear hfz37_2
            try clear hfz37_3
            try clear hfz37_4
            try clear hfz37_5
            try clear hfz37_6
            try clear hfz37_7
            try clear hfz37_8
            try clear hfz37_9
            try clear hfz5_0
            try clear hfz5_1
            try clear hfz5_10
            try clear hfz5_11
            try clear hfz5_12
            try clear hfz5_13
            try clear hfz5_14
            try clear hfz5_15
            try clear hfz5_16
            try clear hfz5_2
            try clear hfz5_3
            try clear hfz5_4
            try clear hfz5_5
            try clear hfz5_6
            try clear hfz5_7
            try clear hfz5_8
            try clear hfz5_9
            try clear p2
            obtain ⟨kq, x5_31, HA, HJ31, HO_5, BK429, HB⟩ := hcut
            cases kq with
            | zero => exact absurd HA.out (by simp [say_Event.j2])
            | succ kj31 =>
              have H := HA.out
              clear HA
              simp only [say_Event.j2] at H
              have H' := Aside0.mk H
              clear H
              have hcz40_0 : wc.cell? ⟨gb429, 0, none⟩ = some (.int .i64 a0_0) := (blk_cell BK429.out 0).trans rfl
              have hcz40_1 : wc.cell? ⟨gb429, 1, none⟩ = some (.int .i64 a0_1) := (blk_cell BK429.out 1).trans rfl
              have hcz40_2 : wc.cell? ⟨gb429, 2, none⟩ = some (.int .i64 a0_2) := (blk_cell BK429.out 2).trans rfl
              have hcz40_3 : wc.cell? ⟨gb429, 3, none⟩ = some (.int .i64 a0_3) := (blk_cell BK429.out 3).trans rfl
              have hcz40_4 : wc.cell? ⟨gb429, 4, none⟩ = some (.string a0_4) := (blk_cell BK429.out 4).trans rfl
              have hcz40_5 : wc.cell? ⟨gb429, 5, none⟩ = some (.string a0_5) := (blk_cell BK429.out 5).trans rfl
              have hcz40_6 : wc.cell? ⟨gb429, 6, none⟩ = some (.bool a0_6) := (blk_cell BK429.out 6).trans rfl
              have hcz40_7 : wc.cell? ⟨gb429, 7, none⟩ = some (.bool a0_7) := (blk_cell BK429.out 7).trans rfl
              have hcz40_8 : wc.cell? ⟨gb429, 8, none⟩ = some (.int .i64 a0_8) := (blk_cell BK429.out 8).trans rfl
              have hcz40_9 : wc.cell? ⟨gb429, 9, none⟩ = some (.bool a0_9) := (blk_cell BK429.out 9).trans rfl
              have hcz40_10 : wc.cell? ⟨gb429, 10, none⟩ = some (.int .i64 a0_10) := (blk_cell BK429.out 10).trans rfl
              have hcz40_11 : wc.cell? ⟨gb429, 11, none⟩ = some (.slice A0_11 l0_11.length c0_11) := (blk_cell BK429.out 11).trans rfl
              have hcz40_12 : wc.cell? ⟨gb429, 12, none⟩ = some (.int .i64 a0_12) := (blk_cell BK429.out 12).trans rfl
              have hcz40_13 : wc.cell? ⟨gb429, 13, none⟩ = some (.int .i64 a0_13) := (blk_cell BK429.out 13).trans rfl
              have hcz40_14 : wc.cell? ⟨gb429, 14, none⟩ = some (.int .i64 a0_14) := (blk_cell BK429.out 14).trans rfl
              have hcz40_15 : wc.cell? ⟨gb429, 15, none⟩ = some (.int .i64 a0_15) := (blk_cell BK429.out 15).trans rfl
              have hcz40_16 : wc.cell? ⟨gb429, 16, none⟩ = some (.int .i64 a0_16) := (blk_cell BK429.out 16).trans rfl
              have hfz40_0 := blk_frozen BK429.out 0
              have hfz40_1 := blk_frozen BK429.out 1
              have hfz40_2 := blk_frozen BK429.out 2
              have hfz40_3 := blk_frozen BK429.out 3
              have hfz40_4 := blk_frozen BK429.out 4
              have hfz40_5 := blk_frozen BK429.out 5
              have hfz40_6 := blk_frozen BK429.out 6
              have hfz40_7 := blk_frozen BK429.out 7
              have hfz40_8 := blk_frozen BK429.out 8
              have hfz40_9 := blk_frozen BK429.out 9
              have hfz40_10 := blk_frozen BK429.out 10
              have hfz40_11 := blk_frozen BK429.out 11
              have hfz40_12 := blk_frozen BK429.out 12
              have hfz40_13 := blk_frozen BK429.out 13
              have hfz40_14 := blk_frozen BK429.out 14
              have hfz40_15 := blk_frozen BK429.out 15
              have hfz40_16 := blk_frozen BK429.out 16
              go_wp2
              go_loopg [5, 56] kj31 (fun kq v5 v56 w' => ∃ (x5_4 : List ByteArray) (x56_4 : Int), v56 = .int .i64 x56_4 ∧ Aside0 (say_Event.l0 kq x5_4 l0_11 (l0_11.length : Int) x56_4 = some r) ∧ Aside0 (kq ≤ kj31) ∧ Aside0 (Kd.R Kd.string 9 w' w.heap.size (fun _ => True) v5 x5_4) ∧ Aside0 (w'.heap[gb429]? = some (.cells #[.int .i64 a0_0, .int .i64 a0_1, .int .i64 a0_2, .int .i64 a0_3, .string a0_4, .string a0_5, .bool a0_6, .bool a0_7, .int .i64 a0_8, .bool a0_9, .int .i64 a0_10, (.slice A0_11 l0_11.length c0_11), .int .i64 a0_12, .int .i64 a0_13, .int .i64 a0_14, .int .i64 a0_15, .int .i64 a0_16] 50 (0, 0))) ∧ Aside0 (Below w.heap.size w w'))
              case atStart => exact ⟨(x5_31), (0), (by first | rfl | (simp; done) | (simp [*]; done)), H', ⟨Nat.le_refl _⟩, ⟨by (with_reducible repeat (first | apply Kd.R_alloc | apply Kd.R_drewN | apply Kd.R_drew)); exact HO_5.out⟩, ⟨by (with_reducible repeat (first | refine blk_drewN ?_ _ | refine blk_drew ?_ | refine blk_alloc ?_ _)); exact BK429.out⟩, ⟨by repeat (first | (with_reducible first | exact HB.out | apply below_alloc | apply pw_below_drewN | apply below_drew1 | refine below_set ?_ GE429.out) | exact HB.out)⟩⟩
              case round =>
                clear H'
                try clear c1
                try clear c2
                try clear p2
                try clear c3
                try clear c4
                try clear c7
                try clear c7b0
                try clear c7b1
                try clear c12
                try clear c15
                try clear c16
                try clear c16b0
                try clear c16b1
                try clear c17
                try clear c22
                try clear c27
                try clear c29
                try clear c34
                try clear c36
                try clear hcz11_0
                try clear hcz11_1
                try clear hcz11_10
                try clear hcz11_11
                try clear hcz11_12
                try clear hcz11_13
                try clear hcz11_14
                try clear hcz11_15
                try clear hcz11_16
                try clear hcz11_2
                try clear hcz11_3
                try clear hcz11_4
                try clear hcz11_5
                try clear hcz11_6
                try clear hcz11_7
                try clear hcz11_8
                try clear hcz11_9
                try clear hcz18_0
                try clear hcz18_1
                try clear hcz18_10
                try clear hcz18_11
                try clear hcz18_12
                try clear hcz18_13
                try clear hcz18_14
                try clear hcz18_15
                try clear hcz18_16
                try clear hcz18_2
                try clear hcz18_3
                try clear hcz18_4
                try clear hcz18_5
                try clear hcz18_6
                try clear hcz18_7
                try clear hcz18_8
                try clear hcz18_9
                try clear hcz23_0
                try clear hcz23_1
                try clear hcz23_10
                try clear hcz23_11
                try clear hcz23_12
                try clear hcz23_13
                try clear hcz23_14
                try clear hcz23_15
                try clear hcz23_16
                try clear hcz23_2
                try clear hcz23_3
                try clear hcz23_4
                try clear hcz23_5
                try clear hcz23_6
                try clear hcz23_7
                try clear hcz23_8
                try clear hcz23_9
                try clear hcz30_0
                try clear hcz30_1
                try clear hcz30_10
                try clear hcz30_11
                try clear hcz30_12
                try clear hcz30_13
                try clear hcz30_14
                try clear hcz30_15
                try clear hcz30_16
                try clear hcz30_2
                try clear hcz30_3
                try clear hcz30_4
                try clear hcz30_5
                try clear hcz30_6
                try clear hcz30_7
                try clear hcz30_8
                try clear hcz30_9
                try clear hcz33_0
                try clear hcz33_1
                try clear hcz33_10
                try clear hcz33_11
                try clear hcz33_12
                try clear hcz33_13
                try clear hcz33_14
                try clear hcz33_15
                try clear hcz33_16
                try clear hcz33_2
                try clear hcz33_3
                try clear hcz33_4
                try clear hcz33_5
                try clear hcz33_6
                try clear hcz33_7
                try clear hcz33_8
                try clear hcz33_9
                try clear hcz37_0
                try clear hcz37_1
                try clear hcz37_10
                try clear hcz37_11
                try clear hcz37_12
                try clear hcz37_13
                try clear hcz37_14
                try clear hcz37_15
                try clear hcz37_16
                try clear hcz37_2
                try clear hcz37_3
                try clear hcz37_4
                try clear hcz37_5
                try clear hcz37_6
                try clear hcz37_7
                try clear hcz37_8
                try clear hcz37_9
                try clear hcz40_0
                try clear hcz40_1
                try clear hcz40_10
                try clear hcz40_11
                try clear hcz40_12
                try clear hcz40_13
                try clear hcz40_14
                try clear hcz40_15
                try clear hcz40_16
                try clear hcz40_2
                try clear hcz40_3
                try clear hcz40_4
                try clear hcz40_5
                try clear hcz40_6
                try clear hcz40_7
                try clear hcz40_8
                try clear hcz40_9
                try clear hcz5_0
                try clear hcz5_1
                try clear hcz5_10
                try clear hcz5_11
                try clear hcz5_12
                try clear hcz5_13
                try clear hcz5_14
                try clear hcz5_15
                try clear hcz5_16
                try clear hcz5_2
                try clear hcz5_3
                try clear hcz5_4
                try clear hcz5_5
                try clear hcz5_6
                try clear hcz5_7
                try clear hcz5_8
                try clear hcz5_9
                try clear hfz11_0
                try clear hfz11_1
                try clear hfz11_10
                try clear hfz11_11
                try clear hfz11_12
                try clear hfz11_13
                try clear hfz11_14
                try clear hfz11_15
                try clear hfz11_16
                try clear hfz11_2
                try clear hfz11_3
                try clear hfz11_4
                try clear hfz11_5
                try clear hfz11_6
                try clear hfz11_7
                try clear hfz11_8
                try clear hfz11_9
                try clear hfz18_0
                try clear hfz18_1
                try clear hfz18_10
                try clear hfz18_11
                try clear hfz18_12
                try clear hfz18_13
                try clear hfz18_14
                try clear hfz18_15
                try clear hfz18_16
                try clear hfz18_2
                try clear hfz18_3
                try clear hfz18_4
                try clear hfz18_5
                try clear hfz18_6
                try clear hfz18_7
                try clear hfz18_8
                try clear hfz18_9
                try clear hfz23_0
                try clear hfz23_1
                try clear hfz23_10
                try clear hfz23_11
                try clear hfz23_12
                try clear hfz23_13
                try clear hfz23_14
                try clear hfz23_15
                try clear hfz23_16
                try clear hfz23_2
                try clear hfz23_3
                try clear hfz23_4
                try clear hfz23_5
                try clear hfz23_6
                try clear hfz23_7
                try clear hfz23_8
                try clear hfz23_9
                try clear hfz30_0
                try clear hfz30_1
                try clear hfz30_10
                try clear hfz30_11
                try clear hfz30_12
                try clear hfz30_13
                try clear hfz30_14
                try clear hfz30_15
                try clear hfz30_16
                try clear hfz30_2
                try clear hfz30_3
                try clear hfz30_4
                try clear hfz30_5
                try clear hfz30_6
                try clear hfz30_7
                try clear hfz30_8
                try clear hfz30_9
                try clear hfz33_0
                try clear hfz33_1
                try clear hfz33_10
                try clear hfz33_11
                try clear hfz33_12
                try clear hfz33_13
                try clear hfz33_14
                try clear hfz33_15
                try clear hfz33_16
                try clear hfz33_2
                try clear hfz33_3
                try clear hfz33_4
                try clear hfz33_5
                try clear hfz33_6
                try clear hfz33_7
                try clear hfz33_8
                try clear hfz33_9
                try clear hfz37_0
                try clear hfz37_1
                try clear hfz37_10
                try clear hfz37_11
                try clear hfz37_12
                try clear hfz37_13
                try clear hfz37_14
                try clear hfz37_15
                try clear hfz37_16
                try clear hfz37_2
                try clear hfz37_3
                try clear hfz37_4
                try clear hfz37_5
                try clear hfz37_6
                try clear hfz37_7
                try clear hfz37_8
                try clear hfz37_9
                try clear hfz40_0
                try clear hfz40_1
                try clear hfz40_10
                try clear hfz40_11
                try clear hfz40_12
                try clear hfz40_13
                try clear hfz40_14
                try clear hfz40_15
                try clear hfz40_16
                try clear hfz40_2
                try clear hfz40_3
                try clear hfz40_4
                try clear hfz40_5
                try clear hfz40_6
                try clear hfz40_7
                try clear hfz40_8
                try clear hfz40_9
                try clear hfz5_0
                try clear hfz5_1
                try clear hfz5_10
                try clear hfz5_11
                try clear hfz5_12
                try clear hfz5_13
                try clear hfz5_14
                try clear hfz5_15
                try clear hfz5_16
                try clear hfz5_2
                try clear hfz5_3
                try clear hfz5_4
                try clear hfz5_5
                try clear hfz5_6
                try clear hfz5_7
                try clear hfz5_8
                try clear hfz5_9
                try clear p2
                obtain ⟨x5_4, x56_4, rfl, HA, HK4, HO_5, BK429, HB⟩ := hrel
                cases gk with
                | zero => exact absurd HA.out (by simp [say_Event.l0])
                | succ k4 =>
                  have H := HA.out
                  clear HA
                  simp only [say_Event.l0] at H
                  by_cases c41 : x56_4 < (l0_11.length : Int)
                  · rw [if_pos c41] at H
                    have c41b0 : decide (x56_4 < (l0_11.length : Int)) = true := decide_eq_true c41
                    clear c41
                    by_cases c42 : 0 ≤ x56_4
                    · rw [if_pos c42] at H
                      have c42b0 : decide (0 ≤ x56_4) = true := decide_eq_true c42
                      clear c42
                      by_cases c43 : x56_4 < (l0_11.length : Int)
                      · rw [if_pos c43] at H
                        have c43b0 : decide (x56_4 < (l0_11.length : Int)) = true := decide_eq_true c43
                        clear c43
                        replace H := Option.bind_eq_some_iff.mp H
                        obtain ⟨t457, A440, H⟩ := H
                        replace H : ((say_Word.f ((rd_T52 l0_11 x56_4).f1)).bind fun t458 => ((some (([t457, t458] : List ByteArray) : List ByteArray)).bind fun y459 => (if x5_4.length + y459.length < 8796093022208 then (say_Event.l0 k4 (x5_4 ++ y459) l0_11 (l0_11.length : Int) (wrap64 (x56_4 + 1))) else (none)))) = some r := H
                        have A44 := Aside0.mk A440
                        clear A440
                        replace H := Option.bind_eq_some_iff.mp H
                        obtain ⟨t458, A450, H⟩ := H
                        replace H : ((some (([t457, t458] : List ByteArray) : List ByteArray)).bind fun y459 => (if x5_4.length + y459.length < 8796093022208 then (say_Event.l0 k4 (x5_4 ++ y459) l0_11 (l0_11.length : Int) (wrap64 (x56_4 + 1))) else (none))) = some r := H
                        have A45 := Aside0.mk A450
                        clear A450
                        obtain ⟨y459, hy459⟩ : ∃ y_ : List ByteArray, y_ = (([t457, t458] : List ByteArray)) := ⟨_, rfl⟩
                        replace H : (if x5_4.length + y459.length < 8796093022208 then (say_Event.l0 k4 (x5_4 ++ y459) l0_11 (l0_11.length : Int) (wrap64 (x56_4 + 1))) else (none)) = some r := by first | (rw [hy459]; with_reducible exact H) | (have H2_ := (Option.bind_some _ _).symm.trans H; rw [hy459]; with_reducible exact H2_) | (have H2_ := (Option.bind_some _ _).symm.trans H; with_reducible exact H2_) | with_reducible exact H | (rw [hy459]; exact H) | exact H
                        have Ny459 := Aside0.mk hy459
                        clear hy459
                        by_cases c46 : x5_4.length + y459.length < 8796093022208
                        · rw [if_pos c46] at H
                          have LMc46 := Aside0.mk c46
                          clear c46
                          obtain ⟨y462, hy462⟩ : ∃ y_ : List ByteArray, y_ = (x5_4 ++ y459) := ⟨_, rfl⟩
                          replace H : (say_Event.l0 k4 y462 l0_11 (l0_11.length : Int) (wrap64 (x56_4 + 1))) = some r := by first | (rw [hy462]; with_reducible exact H) | (have H2_ := (Option.bind_some _ _).symm.trans H; rw [hy462]; with_reducible exact H2_) | (have H2_ := (Option.bind_some _ _).symm.trans H; with_reducible exact H2_) | with_reducible exact H | (rw [hy462]; exact H) | exact H
                          have Ny462 := Aside0.mk hy462
                          clear hy462
                          have H' := Aside0.mk H
                          clear H
                          have p455 : 0 ≤ (x56_4 : Int) := of_decide_eq_true (by first | (with_reducible assumption) | assumption)
                          have q455 : x56_4 < (l0_11.length : Int) := of_decide_eq_true (by first | (with_reducible assumption) | assumption)
                          obtain ⟨ad455, e455, hx455_0, hx455_1⟩ := at_T52 HR0_11.out x56_4 p455 q455
                          cases e455
                          replace hx455_0 := (HB.out.cell (World.block_lt_of_cell? w _ hx455_0)).trans hx455_0
                          replace hx455_1 := (HB.out.cell (World.block_lt_of_cell? w _ hx455_1)).trans hx455_1
                          replace p455 := eq_true p455
                          replace q455 := eq_true q455
                          try go_wp2_with (first | ((with_reducible refine gate_dst (N := 7) rfl ?_); refine box_event ?hg (N := 7) ?hd (cs := #[.string (⟨#[]⟩ : ByteArray), .string (⟨#[]⟩ : ByteArray)]) (t := 52) ?hr ?_; (case hd => rfl); (case hg => rfl); (case hr => first | (go_simp; done) | (go_simp; rfl)); intro gb456 hg w47 hbox hb; have n0_ := Aside0.mk (Kd.R_below (by (with_reducible repeat (first | apply Kd.R_alloc | apply Kd.R_drewN | apply Kd.R_drew)); exact HO_5.out) hb); have n1_ := Aside0.mk (blk_below (g := gb429) (o := .cells #[.int .i64 a0_0, .int .i64 a0_1, .int .i64 a0_2, .int .i64 a0_3, .string a0_4, .string a0_5, .bool a0_6, .bool a0_7, .int .i64 a0_8, .bool a0_9, .int .i64 a0_10, .slice (some ad455) l0_11.length c0_11, .int .i64 a0_12, .int .i64 a0_13, .int .i64 a0_14, .int .i64 a0_15, .int .i64 a0_16] 50 (0, 0)) (by (with_reducible repeat (first | refine blk_drewN ?_ _ | refine blk_drew ?_ | refine blk_alloc ?_ _)); exact BK429.out) hb); have n2_ := Aside0.mk (below_step (by repeat (first | (with_reducible first | exact HB.out | apply below_alloc | apply pw_below_drewN | apply below_drew1 | refine below_set ?_ GE429.out) | exact HB.out)) hb); have n3_ := Aside0.mk (hbox); have n4_ := Aside0.mk ((by rw [hg]; exact (below_size (by repeat (first | (with_reducible first | exact HB.out | apply below_alloc | apply pw_below_drewN | apply below_drew1 | refine below_set ?_ GE429.out) | exact HB.out))) : w.heap.size ≤ gb456)); have n5_ := Aside0.mk ((by rw [hg]; exact (below_size (by repeat (first | (with_reducible first | exact HB.out | apply below_alloc | apply pw_below_drewN | apply below_drew1 | refine below_set ?_ GE429.out) | exact HB.out))) : w.heap.size ≤ gb456)); have n6_ := Aside0.mk ((by rw [hg]; exact Nat.ne_of_lt (blk_lt (g := gb429) (o := .cells #[.int .i64 a0_0, .int .i64 a0_1, .int .i64 a0_2, .int .i64 a0_3, .string a0_4, .string a0_5, .bool a0_6, .bool a0_7, .int .i64 a0_8, .bool a0_9, .int .i64 a0_10, .slice (some ad455) l0_11.length c0_11, .int .i64 a0_12, .int .i64 a0_13, .int .i64 a0_14, .int .i64 a0_15, .int .i64 a0_16] 50 (0, 0)) (by (with_reducible repeat (first | refine blk_drewN ?_ _ | refine blk_drew ?_ | refine blk_alloc ?_ _)); exact BK429.out)) : gb429 ≠ gb456)); have n7_ := Aside0.mk ((by rw [hg]; exact Nat.ne_of_gt (blk_lt (g := gb429) (o := .cells #[.int .i64 a0_0, .int .i64 a0_1, .int .i64 a0_2, .int .i64 a0_3, .string a0_4, .string a0_5, .bool a0_6, .bool a0_7, .int .i64 a0_8, .bool a0_9, .int .i64 a0_10, .slice (some ad455) l0_11.length c0_11, .int .i64 a0_12, .int .i64 a0_13, .int .i64 a0_14, .int .i64 a0_15, .int .i64 a0_16] 50 (0, 0)) (by (with_reducible repeat (first | refine blk_drewN ?_ _ | refine blk_drew ?_ | refine blk_alloc ?_ _)); exact BK429.out)) : gb456 ≠ gb429)); clear HO_5; clear BK429; clear HB; have HO_5 := n0_; have BK429 := n1_; have HB := n2_; have BK456 := n3_; have GW456 := n4_; have GE456 := n5_; have NB429_456 := n6_; have NB456_429 := n7_; clear n0_ n1_ n2_ n3_ n4_ n5_ n6_ n7_; clear hb hbox hg; have hnb48 := NB456_429.out; have hnc48 := NB429_456.out; have hcz49_0 : w47.cell? ⟨gb456, 0, none⟩ = some (.string (⟨#[]⟩ : ByteArray)) := (blk_cell BK456.out 0).trans rfl; have hcz49_1 : w47.cell? ⟨gb456, 1, none⟩ = some (.string (⟨#[]⟩ : ByteArray)) := (blk_cell BK456.out 1).trans rfl; have hfz49_0 := blk_frozen BK456.out 0; have hfz49_1 := blk_frozen BK456.out 1))
                          have n0_ : Aside0 (Kd.R Kd.string 9 ((w47.setCell ⟨gb456, 0, none⟩ (.string ((rd_T52 l0_11 x56_4).f0))).setCell ⟨gb456, 1, none⟩ (.string ((rd_T52 l0_11 x56_4).f1))) w.heap.size (fun _ => True) u5 x5_4) := ⟨by (with_reducible repeat (first | apply Kd.R_alloc | apply Kd.R_drewN | apply Kd.R_drew)); exact Kd.R_mono (Kd.R_far (p := ⟨gb456, 1, none⟩) (Kd.R_far (p := ⟨gb456, 0, none⟩) (Kd.R_types HO_5.out BK456.out (by decide)) (fun _ hk => hk.2) (.string ((rd_T52 l0_11 x56_4).f0))) (fun _ hk => hk.2) (.string ((rd_T52 l0_11 x56_4).f1))) (fun _ hk => trivial)⟩
                          have n1_ : Aside0 (((w47.setCell ⟨gb456, 0, none⟩ (.string ((rd_T52 l0_11 x56_4).f0))).setCell ⟨gb456, 1, none⟩ (.string ((rd_T52 l0_11 x56_4).f1))).heap[gb429]? = some (.cells #[.int .i64 a0_0, .int .i64 a0_1, .int .i64 a0_2, .int .i64 a0_3, .string a0_4, .string a0_5, .bool a0_6, .bool a0_7, .int .i64 a0_8, .bool a0_9, .int .i64 a0_10, .slice (some ad455) l0_11.length c0_11, .int .i64 a0_12, .int .i64 a0_13, .int .i64 a0_14, .int .i64 a0_15, .int .i64 a0_16] 50 (0, 0))) := ⟨by (with_reducible repeat (first | refine blk_drewN ?_ _ | refine blk_drew ?_ | refine blk_alloc ?_ _)); refine blk_far ?_ NB429_456.out _; (with_reducible repeat (first | refine blk_drewN ?_ _ | refine blk_drew ?_ | refine blk_alloc ?_ _)); refine blk_far ?_ NB429_456.out _; (with_reducible repeat (first | refine blk_drewN ?_ _ | refine blk_drew ?_ | refine blk_alloc ?_ _)); exact BK429.out⟩
                          have n2_ : Aside0 (((w47.setCell ⟨gb456, 0, none⟩ (.string ((rd_T52 l0_11 x56_4).f0))).setCell ⟨gb456, 1, none⟩ (.string ((rd_T52 l0_11 x56_4).f1))).heap[gb456]? = some (.cells #[.string ((rd_T52 l0_11 x56_4).f0), .string ((rd_T52 l0_11 x56_4).f1)] 52 (0, 0))) := ⟨by (with_reducible repeat (first | refine blk_drewN ?_ _ | refine blk_drew ?_ | refine blk_alloc ?_ _)); refine blk_put (cs := #[.string ((rd_T52 l0_11 x56_4).f0), .string (⟨#[]⟩ : ByteArray)]) ?_ 1 _ rfl; (with_reducible repeat (first | refine blk_drewN ?_ _ | refine blk_drew ?_ | refine blk_alloc ?_ _)); refine blk_put (cs := #[.string (⟨#[]⟩ : ByteArray), .string (⟨#[]⟩ : ByteArray)]) ?_ 0 _ rfl; (with_reducible repeat (first | refine blk_drewN ?_ _ | refine blk_drew ?_ | refine blk_alloc ?_ _)); exact BK456.out⟩
                          have n3_ : Aside0 (Below w.heap.size w ((w47.setCell ⟨gb456, 0, none⟩ (.string ((rd_T52 l0_11 x56_4).f0))).setCell ⟨gb456, 1, none⟩ (.string ((rd_T52 l0_11 x56_4).f1)))) := ⟨by repeat (first | (with_reducible first | exact HB.out | apply below_alloc | apply pw_below_drewN | apply below_drew1 | refine below_set ?_ GE429.out | refine below_set ?_ GE456.out) | exact HB.out)⟩
                          (try clear HO_5)
                          (try clear BK429)
                          (try clear BK456)
                          (try clear HB)
                          generalize ((w47.setCell ⟨gb456, 0, none⟩ (.string ((rd_T52 l0_11 x56_4).f0))).setCell ⟨gb456, 1, none⟩ (.string ((rd_T52 l0_11 x56_4).f1))) = w50 at n0_ n1_ n2_ n3_ ⊢
                          have HO_5 := n0_
                          have BK429 := n1_
                          have BK456 := n2_
                          have HB := n3_
                          clear n0_ n1_ n2_ n3_
                          have n0_ := Aside0.mk (Kd.R_drew HO_5.out)
                          have n1_ := Aside0.mk (blk_drew BK429.out)
                          have n2_ := Aside0.mk (blk_drew BK456.out)
                          have n3_ := Aside0.mk (below_drew1 HB.out)
                          clear HO_5
                          clear BK429
                          clear BK456
                          clear HB
                          have HO_5 := n0_
                          have BK429 := n1_
                          have BK456 := n2_
                          have HB := n3_
                          clear n0_ n1_ n2_ n3_
                          refine start_ (n := 10) (S := fun w' => w'.cell? ⟨gb456, 0, none⟩ = some (.string ((rd_T52 l0_11 x56_4).f0)) ∧ w'.cell? ⟨gb456, 1, none⟩ = some (.string ((rd_T52 l0_11 x56_4).f1))) (ds := []) #[false, false, false, false, false, false, false, false, false, false] (by kernel_rfl) rfl rfl ⟨(blk_cell BK456.out 0).trans rfl, (blk_cell BK456.out 1).trans rfl⟩ (fun hHeld => ?_); refine with_tabW say_Event.tab15 say_Event.bits15 (fun HT_ HW_ => ?_)
                          generalize w50.drew = w51 at HO_5 BK429 BK456 HB hHeld ⊢
                          refine pure_ (i := 0) (N := some 60) (v := ?_) (a' := ?_) #[true, false, false, false, false, false, false, false, false, false] rfl rfl (any_of HT_.out (by kernel_rfl)) (fun _ _ _ h => h) (Or.inl ⟨by rfl, ?_⟩) ?_ ?_
                          rotate_left
                          · intro w'
                            go_simp
                            with_reducible rfl
                          rotate_left
                          · simp only [Act.put, List.setIfInBounds_toArray, List.set_cons_zero, List.set_cons_succ, i64_w, i32_w]
                            rfl
                          refine pure_ (i := 1) (N := some 61) (v := ?_) (a' := ?_) #[true, true, false, false, false, false, false, false, false, false] rfl rfl (any_of HT_.out (by kernel_rfl)) (fun _ _ _ h => h) (Or.inl ⟨by rfl, ?_⟩) ?_ ?_
                          rotate_left
                          · intro w'
                            go_simp
                            with_reducible rfl
                          rotate_left
                          · simp only [Act.put, List.setIfInBounds_toArray, List.set_cons_zero, List.set_cons_succ, i64_w, i32_w]
                            rfl
                          refine pure_ (i := 4) (N := some 64) (v := ?_) (a' := ?_) #[true, true, false, false, true, false, false, false, false, false] rfl rfl (any_of HT_.out (by kernel_rfl)) (fun _ _ _ h => h) (Or.inl ⟨by rfl, ?_⟩) ?_ ?_
                          rotate_left
                          · intro w'
                            go_simp
                            with_reducible rfl
                          rotate_left
                          · simp only [Act.put, List.setIfInBounds_toArray, List.set_cons_zero, List.set_cons_succ, i64_w, i32_w]
                            rfl
                          refine take_ (i := 2) (N := some 62) (v := ?_) (a' := ?_) #[true, true, true, false, true, false, false, false, false, false] rfl rfl (take_ofW HT_.out HW_.out (by kernel_rfl)) (fun _ _ _ h => h) (Or.inl ⟨by rfl, ?_⟩) hHeld ?_ ?_
                          rotate_left
                          · rintro w' ⟨s0, s1⟩
                            go_simp
                            with_reducible rfl
                          rotate_left
                          · simp only [Act.put, List.setIfInBounds_toArray, List.set_cons_zero, List.set_cons_succ, i64_w, i32_w]
                            rfl
                          refine take_ (i := 5) (N := some 65) (v := ?_) (a' := ?_) #[true, true, true, false, true, true, false, false, false, false] rfl rfl (take_ofW HT_.out HW_.out (by kernel_rfl)) (fun _ _ _ h => h) (Or.inl ⟨by rfl, ?_⟩) hHeld ?_ ?_
                          rotate_left
                          · rintro w' ⟨s0, s1⟩
                            go_simp
                            with_reducible rfl
                          rotate_left
                          · simp only [Act.put, List.setIfInBounds_toArray, List.set_cons_zero, List.set_cons_succ, i64_w, i32_w]
                            rfl
                          refine one_ (i := 3) (N := some 63) #[true, true, true, true, true, true, false, false, false, false] rfl rfl (one_of HT_.out (by kernel_rfl)) (by decide) (fun K hK => ?_)
                          refine goes_ Tryd.func12 (by kernel_rfl) rfl #[.string ((rd_T52 l0_11 x56_4).f0)] (by rfl) rfl rfl (by (try simp only [List.map_toArray, List.map_cons, List.map_nil]); first | done | rfl | (simp only [List.length_drop, List.length_take]; rfl)) ?_
                          with_reducible refine (say_Word.calls ((rd_T52 l0_11 x56_4).f0) t457 _ A44.out).mono ?_
                          rintro e w52 ⟨rfl, hb⟩
                          refine ⟨_, rfl, ?_⟩
                          have n0_ := Aside0.mk (Kd.R_below (by (with_reducible repeat (first | apply Kd.R_alloc | apply Kd.R_drewN | apply Kd.R_drew)); exact HO_5.out) hb)
                          have n1_ := Aside0.mk (blk_below (g := gb429) (o := .cells #[.int .i64 a0_0, .int .i64 a0_1, .int .i64 a0_2, .int .i64 a0_3, .string a0_4, .string a0_5, .bool a0_6, .bool a0_7, .int .i64 a0_8, .bool a0_9, .int .i64 a0_10, .slice (some ad455) l0_11.length c0_11, .int .i64 a0_12, .int .i64 a0_13, .int .i64 a0_14, .int .i64 a0_15, .int .i64 a0_16] 50 (0, 0)) (by (with_reducible repeat (first | refine blk_drewN ?_ _ | refine blk_drew ?_ | refine blk_alloc ?_ _)); exact BK429.out) hb)
                          have n2_ := Aside0.mk (blk_below (g := gb456) (o := .cells #[.string ((rd_T52 l0_11 x56_4).f0), .string ((rd_T52 l0_11 x56_4).f1)] 52 (0, 0)) (by (with_reducible repeat (first | refine blk_drewN ?_ _ | refine blk_drew ?_ | refine blk_alloc ?_ _)); exact BK456.out) hb)
                          have n3_ := Aside0.mk (below_step (by repeat (first | (with_reducible first | exact HB.out | apply below_alloc | apply pw_below_drewN | apply below_drew1 | refine below_set ?_ GE429.out | refine below_set ?_ GE456.out) | exact HB.out)) hb)
                          clear HO_5
                          clear BK429
                          clear BK456
                          clear HB
                          have HO_5 := n0_
                          have BK429 := n1_
                          have BK456 := n2_
                          have HB := n3_
                          clear n0_ n1_ n2_ n3_
                          (try clear hb)
                          (try clear hb2)
                          (try clear hk)
                          (try clear hi)
                          refine hK.out _ _ ⟨(blk_cell BK456.out 0).trans rfl, (blk_cell BK456.out 1).trans rfl⟩ (fun hHeld => ?_)
                          clear hK K
                          refine norm_ (a' := ?_) ?_ ?_
                          rotate_left
                          · show Act.put _ (some 63) _ = _
                            simp only [Act.put, List.setIfInBounds_toArray, List.set_cons_zero, List.set_cons_succ, i64_w, i32_w]
                            rfl
                          refine one_ (i := 6) (N := some 66) #[true, true, true, true, true, true, true, false, false, false] rfl rfl (one_of HT_.out (by kernel_rfl)) (by decide) (fun K hK => ?_)
                          refine goes_ Tryd.func12 (by kernel_rfl) rfl #[.string ((rd_T52 l0_11 x56_4).f1)] (by rfl) rfl rfl (by (try simp only [List.map_toArray, List.map_cons, List.map_nil]); first | done | rfl | (simp only [List.length_drop, List.length_take]; rfl)) ?_
                          with_reducible refine (say_Word.calls ((rd_T52 l0_11 x56_4).f1) t458 _ A45.out).mono ?_
                          rintro e w53 ⟨rfl, hb⟩
                          refine ⟨_, rfl, ?_⟩
                          have n0_ := Aside0.mk (Kd.R_below (by (with_reducible repeat (first | apply Kd.R_alloc | apply Kd.R_drewN | apply Kd.R_drew)); exact HO_5.out) hb)
                          have n1_ := Aside0.mk (blk_below (g := gb429) (o := .cells #[.int .i64 a0_0, .int .i64 a0_1, .int .i64 a0_2, .int .i64 a0_3, .string a0_4, .string a0_5, .bool a0_6, .bool a0_7, .int .i64 a0_8, .bool a0_9, .int .i64 a0_10, .slice (some ad455) l0_11.length c0_11, .int .i64 a0_12, .int .i64 a0_13, .int .i64 a0_14, .int .i64 a0_15, .int .i64 a0_16] 50 (0, 0)) (by (with_reducible repeat (first | refine blk_drewN ?_ _ | refine blk_drew ?_ | refine blk_alloc ?_ _)); exact BK429.out) hb)
                          have n2_ := Aside0.mk (blk_below (g := gb456) (o := .cells #[.string ((rd_T52 l0_11 x56_4).f0), .string ((rd_T52 l0_11 x56_4).f1)] 52 (0, 0)) (by (with_reducible repeat (first | refine blk_drewN ?_ _ | refine blk_drew ?_ | refine blk_alloc ?_ _)); exact BK456.out) hb)
                          have n3_ := Aside0.mk (below_step (by repeat (first | (with_reducible first | exact HB.out | apply below_alloc | apply pw_below_drewN | apply below_drew1 | refine below_set ?_ GE429.out | refine below_set ?_ GE456.out) | exact HB.out)) hb)
                          clear HO_5
                          clear BK429
                          clear BK456
                          clear HB
                          have HO_5 := n0_
                          have BK429 := n1_
                          have BK456 := n2_
                          have HB := n3_
                          clear n0_ n1_ n2_ n3_
                          (try clear hb)
                          (try clear hb2)
                          (try clear hk)
                          (try clear hi)
                          refine hK.out _ _ ⟨(blk_cell BK456.out 0).trans rfl, (blk_cell BK456.out 1).trans rfl⟩ (fun hHeld => ?_)
                          clear hK K
                          refine norm_ (a' := ?_) ?_ ?_
                          rotate_left
                          · show Act.put _ (some 66) _ = _
                            simp only [Act.put, List.setIfInBounds_toArray, List.set_cons_zero, List.set_cons_succ, i64_w, i32_w]
                            rfl
                          refine one_ (i := 7) (N := some 67) #[true, true, true, true, true, true, true, true, false, false] rfl rfl (one_of HT_.out (by kernel_rfl)) (by decide) (fun K hK => ?_)
                          refine Kd.R_lit_step Kd.string _ 9 ?hg (N := 67) ?hd (xs := ([t457, t458] : List ByteArray)) (inner := [.string t457, .string t458]) (ok := fun _ => True) (okp := fun _ => True) ?hr ?hp (fun _ hk => hk) trivial (Below.refl _ _) (Nat.le_refl _) (by simp) ?_; (case hd => rfl); (case hg => rfl); (case hr => first | (go_simp; done) | (go_simp; rfl)); (case hp => exact (Reps.one (show Kd.M Kd.string _ _ _ t457 [.string t457] from rfl) (Reps.one (show Kd.M Kd.string _ _ _ t458 [.string t458] from rfl) (Reps.none _ _))))
                          intro v460 w54 ho55 hb hg_ hnew_
                          clear hg_ hnew_
                          (first | rw [← Ny459.out] at ho55 | (simp only [Int.reduceToNat] at ho55; rw [← Ny459.out] at ho55))
                          have n0_ := Aside0.mk (Kd.R_elder' (by (with_reducible repeat (first | apply Kd.R_alloc | apply Kd.R_drewN | apply Kd.R_drew)); exact HO_5.out) (Kd.R_base ho55) hb)
                          have n1_ := Aside0.mk (Kd.R_lower (Kd.R_new' ho55 (Kd.R_lt (by (with_reducible repeat (first | apply Kd.R_alloc | apply Kd.R_drewN | apply Kd.R_drew)); exact HO_5.out))) (below_size (by repeat (first | (with_reducible first | exact HB.out | apply below_alloc | apply pw_below_drewN | apply below_drew1 | refine below_set ?_ GE429.out | refine below_set ?_ GE456.out) | exact HB.out))))
                          have n2_ := Aside0.mk (blk_below (g := gb429) (o := .cells #[.int .i64 a0_0, .int .i64 a0_1, .int .i64 a0_2, .int .i64 a0_3, .string a0_4, .string a0_5, .bool a0_6, .bool a0_7, .int .i64 a0_8, .bool a0_9, .int .i64 a0_10, .slice (some ad455) l0_11.length c0_11, .int .i64 a0_12, .int .i64 a0_13, .int .i64 a0_14, .int .i64 a0_15, .int .i64 a0_16] 50 (0, 0)) (by (with_reducible repeat (first | refine blk_drewN ?_ _ | refine blk_drew ?_ | refine blk_alloc ?_ _)); exact BK429.out) hb)
                          have n3_ := Aside0.mk (blk_below (g := gb456) (o := .cells #[.string ((rd_T52 l0_11 x56_4).f0), .string ((rd_T52 l0_11 x56_4).f1)] 52 (0, 0)) (by (with_reducible repeat (first | refine blk_drewN ?_ _ | refine blk_drew ?_ | refine blk_alloc ?_ _)); exact BK456.out) hb)
                          have n4_ := Aside0.mk (below_step (by repeat (first | (with_reducible first | exact HB.out | apply below_alloc | apply pw_below_drewN | apply below_drew1 | refine below_set ?_ GE429.out | refine below_set ?_ GE456.out) | exact HB.out)) hb)
                          clear HO_5
                          clear BK429
                          clear BK456
                          clear HB
                          have HO_5 := n0_
                          have HO461 := n1_
                          have BK429 := n2_
                          have BK456 := n3_
                          have HB := n4_
                          clear n0_ n1_ n2_ n3_ n4_
                          clear hb ho55
                          obtain ⟨Ao57, co57, eo57⟩ := Kd.R_slice HO461.out
                          (first | subst eo57 | (injection eo57 with f1_ f2_ f3_; have f4_ := f1_.symm; have f5_ := f3_.symm; clear f1_ f2_ f3_; subst f4_; subst f5_))
                          refine hK.out _ _ ⟨(blk_cell BK456.out 0).trans rfl, (blk_cell BK456.out 1).trans rfl⟩ (fun hHeld => ?_)
                          clear hK K
                          refine norm_ (a' := ?_) ?_ ?_
                          rotate_left
                          · show Act.put _ (some 67) _ = _
                            simp only [Act.put, List.setIfInBounds_toArray, List.set_cons_zero, List.set_cons_succ, i64_w, i32_w]
                            rfl
                          refine one_ (i := 8) (N := some 68) #[true, true, true, true, true, true, true, true, true, false] rfl rfl (one_of HT_.out (by kernel_rfl)) (by decide) (fun K hK => ?_)
                          refine Kd.R_append_rows_step Kd.string (w0 := w) w.heap.size (by rfl) (.tmp 60) (.tmp 67) 34 9 (.string ⟨#[]⟩) 16 rfl Tryd.underlying34 info9 rfl (by decide) (by omega) u5 x5_4 y459 _ _ _ (fun k_ => some k_ ≠ (.slice Ao57 y459.length co57 : Value).ownBlock) (fun _ => False) rfl rfl ?aO ?aR (fun _ _ h => h) (fun _ h => h.elim) ?aF ?aB ?aS ?aL ?_
                          (case aR => repeat (first | exact (Kd.R_reads' HO461.out).2.2 | (with_reducible refine Kd.C_alloc ?_ _) | (with_reducible refine Kd.C_drewN ?_ _) | (with_reducible refine Kd.C_drew ?_)))
                          (case aB => exact (by repeat (first | (with_reducible first | exact HB.out | apply below_alloc | apply pw_below_drewN | apply below_drew1 | refine below_set ?_ GE429.out | refine below_set ?_ GE456.out) | exact HB.out)))
                          (case aF => exact (fun k_ hk => Kd.fresh' (Kd.R_lt (by (with_reducible repeat (first | apply Kd.R_alloc | apply Kd.R_drewN | apply Kd.R_drew)); exact HO461.out)) k_ hk))
                          (case aO => exact (by (with_reducible repeat (first | apply Kd.R_alloc | apply Kd.R_drewN | apply Kd.R_drew)); exact Kd.R_mono HO_5.out (fun _ hk => hk.2)))
                          (case aS => exact (below_size (by repeat (first | (with_reducible first | exact HB.out | apply below_alloc | apply pw_below_drewN | apply below_drew1 | refine below_set ?_ GE429.out | refine below_set ?_ GE456.out) | exact HB.out))))
                          (case aL => have := LMc46.out; omega)
                          intro v463 w56 ho hb hg hat
                          rw [← Ny462.out] at ho
                          have n0_ := Aside0.mk (blk_grown (g := gb429) (o := .cells #[.int .i64 a0_0, .int .i64 a0_1, .int .i64 a0_2, .int .i64 a0_3, .string a0_4, .string a0_5, .bool a0_6, .bool a0_7, .int .i64 a0_8, .bool a0_9, .int .i64 a0_10, .slice (some ad455) l0_11.length c0_11, .int .i64 a0_12, .int .i64 a0_13, .int .i64 a0_14, .int .i64 a0_15, .int .i64 a0_16] 50 (0, 0)) (by (with_reducible repeat (first | refine blk_drewN ?_ _ | refine blk_drew ?_ | refine blk_alloc ?_ _)); exact BK429.out) hg (Kd.R_ne HO_5.out BK429.out (by decide)))
                          have n1_ := Aside0.mk (blk_grown (g := gb456) (o := .cells #[.string ((rd_T52 l0_11 x56_4).f0), .string ((rd_T52 l0_11 x56_4).f1)] 52 (0, 0)) (by (with_reducible repeat (first | refine blk_drewN ?_ _ | refine blk_drew ?_ | refine blk_alloc ?_ _)); exact BK456.out) hg (Kd.R_ne HO_5.out BK456.out (by decide)))
                          have n2_ := Aside0.mk (Kd.R_after (ok := (fun _ => True)) (by (with_reducible repeat (first | apply Kd.R_alloc | apply Kd.R_drewN | apply Kd.R_drew)); exact HO461.out) hg hat)
                          have n3_ := Aside0.mk (hb)
                          have n4_ := Aside0.mk (ho)
                          clear BK429
                          clear BK456
                          clear HO461
                          clear HB
                          clear HO_5
                          have BK429 := n0_
                          have BK456 := n1_
                          have HO461 := n2_
                          have HB := n3_
                          have HO464 := n4_
                          clear n0_ n1_ n2_ n3_ n4_
                          clear ho hb hg hat
                          refine hK.out _ _ ⟨(blk_cell BK456.out 0).trans rfl, (blk_cell BK456.out 1).trans rfl⟩ (fun hHeld => ?_)
                          clear hK K
                          refine norm_ (a' := ?_) ?_ ?_
                          rotate_left
                          · show Act.put _ (some 68) _ = _
                            simp only [Act.put, List.setIfInBounds_toArray, List.set_cons_zero, List.set_cons_succ, i64_w, i32_w]
                            rfl
                          refine pure_ (i := 9) (N := some 5) (v := ?_) (a' := ?_) #[true, true, true, true, true, true, true, true, true, true] rfl rfl (any_of HT_.out (by kernel_rfl)) (fun _ _ _ h => h) (Or.inl ⟨by rfl, ?_⟩) ?_ ?_
                          rotate_left
                          · intro w'
                            go_simp
                            with_reducible rfl
                          rotate_left
                          · simp only [Act.put, List.setIfInBounds_toArray, List.set_cons_zero, List.set_cons_succ, i64_w, i32_w]
                            rfl
                          refine done_ (done_of HT_.out (by kernel_rfl)) ?_
                          try go_wp2
                          go_roundg k4
                          case measure => have := HJ2.out; have := HJ9.out; have := HJ31.out; have := HK4.out; omega
                          case rel => exact ⟨(y462), (wrap64 (x56_4 + 1)), (by first | rfl | (simp; done) | (simp [*]; done)), H', ⟨by have := HJ2.out; have := HJ9.out; have := HJ31.out; have := HK4.out; omega⟩, ⟨by (with_reducible repeat (first | apply Kd.R_alloc | apply Kd.R_drewN | apply Kd.R_drew)); exact Kd.R_mono HO464.out (fun _ hk => trivial)⟩, ⟨by (with_reducible repeat (first | refine blk_drewN ?_ _ | refine blk_drew ?_ | refine blk_alloc ?_ _)); exact BK429.out⟩, ⟨by repeat (first | (with_reducible first | exact HB.out | apply below_alloc | apply pw_below_drewN | apply below_drew1 | refine below_set ?_ GE429.out | refine below_set ?_ GE456.out) | exact HB.out)⟩⟩
                        · rw [if_neg c46] at H
                          exact absurd H (by simp)
                      · rw [if_neg c43] at H
                        exact absurd H (by simp)
                    · rw [if_neg c42] at H
                      exact absurd H (by simp)
                  · rw [if_neg c41] at H
                    have c41b0 : decide (x56_4 < (l0_11.length : Int)) = false := decide_eq_false c41
                    clear c41
                    replace H := Option.bind_eq_some_iff.mp H
                    obtain ⟨t465, A580, H⟩ := H
                    replace H : (some t465) = some r := H
                    have A58 := Aside0.mk A580
                    clear A580
                    obtain rfl := Option.some.inj H
                    obtain ⟨Ao59, co59, eo59⟩ := Kd.R_slice HO_5.out
                    subst eo59
                    go_wp2_with (first | ((with_reducible refine gate_callee (f := 48) rfl ?_); refine goesL_ (some 71) rfl rfl Tryd.func48 (by kernel_rfl) rfl #[.slice Ao59 x5_4.length co59, .string (⟨#[32]⟩ : ByteArray)] rfl (by (try simp only [List.map_toArray, List.map_cons, List.map_nil]); first | done | rfl | (simp only [List.length_drop, List.length_take]; rfl)) ?_; (with_reducible refine (strings_Join.calls _ _ x5_4 (⟨#[32]⟩ : ByteArray) t465 _ ?side1 ?side2 A58.out).mono ?_); (case side1 => repeat (first | exact (Kd.R_reads' HO_5.out).2.2 | (with_reducible refine Kd.C_alloc ?_ _) | (with_reducible refine Kd.C_drewN ?_ _) | (with_reducible refine Kd.C_drew ?_))); (case side2 => exact (Kd.R_reads' HO_5.out).2.1); rintro e w60 ⟨rfl, hb⟩; refine ⟨_, rfl, ?_⟩; have n0_ := Aside0.mk (Kd.R_below (by (with_reducible repeat (first | apply Kd.R_alloc | apply Kd.R_drewN | apply Kd.R_drew)); exact HO_5.out) hb); have n1_ := Aside0.mk (blk_below (g := gb429) (o := .cells #[.int .i64 a0_0, .int .i64 a0_1, .int .i64 a0_2, .int .i64 a0_3, .string a0_4, .string a0_5, .bool a0_6, .bool a0_7, .int .i64 a0_8, .bool a0_9, .int .i64 a0_10, .slice A0_11 l0_11.length c0_11, .int .i64 a0_12, .int .i64 a0_13, .int .i64 a0_14, .int .i64 a0_15, .int .i64 a0_16] 50 (0, 0)) (by (with_reducible repeat (first | refine blk_drewN ?_ _ | refine blk_drew ?_ | refine blk_alloc ?_ _)); exact BK429.out) hb); have n2_ := Aside0.mk (below_step (by repeat (first | (with_reducible first | exact HB.out | apply below_alloc | apply pw_below_drewN | apply below_drew1 | refine below_set ?_ GE429.out) | exact HB.out)) hb); clear HO_5; clear BK429; clear HB; have HO_5 := n0_; have BK429 := n1_; have HB := n2_; clear n0_ n1_ n2_; (try clear hb); (try clear hb2); (try clear hk); (try clear hi)))
                    go_ret
                    exact ⟨by first | rfl | (simp [errW_none, errW_some] <;> rfl) | (simp only [← hji8]; first | rfl | (simp [errW_none, errW_some] <;> rfl)) | (simp [*, errW_none, errW_some] <;> rfl), by repeat (first | (with_reducible first | exact HB.out | apply below_alloc | apply pw_below_drewN | apply below_drew1 | refine below_set ?_ GE429.out) | exact HB.out)⟩

end Go.Proofs.YtflbkgpmepfhlaaDoor.HSay
