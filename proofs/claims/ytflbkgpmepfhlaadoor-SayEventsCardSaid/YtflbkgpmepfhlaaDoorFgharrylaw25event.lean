import Derived.Test.YtflbkgpmepfhlaaDoorFtypes
import Derived.Test.YtflbkgpmepfhlaaDoorFgharrylaw25cut
import Derived.Test.YtflbkgpmepfhlaaDoorFgharryref25Words
import Derived.Test.YtflbkgpmepfhlaaDoorFgharrylaw25low
namespace Go.Proofs.YtflbkgpmepfhlaaDoor.HSay
open Go.RowKit Go.Proofs.YtflbkgpmepfhlaaDoor.Hook Go.Proofs.YtflbkgpmepfhlaaDoorW.PrintWords Go.Proofs.YtflbkgpmepfhlaaDoorW.PrintLast Go.Proofs.YtflbkgpmepfhlaaDoorW.PrintMore
attribute [local go_sem] max2_int min2_int max_two min_two max_three min_three max_four min_four   -- for this text's walks alone
set_option linter.unusedVariables false
set_option linter.unusedSimpArgs false




mutual
def gharrylaw25_event.j0 : Nat → ByteArray → Bool → Int → Int → Int → Int → ByteArray → ByteArray → Bool → Bool → Int → Bool → Int → List (S52) → Int → Int → Int → Int → Int → Option (ByteArray)
  | 0, _, _, _, _, _, _, _, _, _, _, _, _, _, _, _, _, _, _, _ => none
  | k + 1, x3, x12, x469000, x469001, x469002, x469003, x469004, x469005, x469006, x469007, x469008, x469009, x469010, x469011, x469012, x469013, x469014, x469015, x469016 => if x12 = true then ((gharryref25_Words.f).bind fun t469 => (if 0 ≤ x469000 then (if x469000 < (t469.length : Int) then (gharrylaw25_event.j1 k (rdOf ByteArray.empty t469 x469000) x469000 x469001 x469002 x469003 x469004 x469005 x469006 x469007 x469008 x469009 x469010 x469011 x469012 x469013 x469014 x469015 x469016) else (none)) else (none))) else (gharrylaw25_event.j1 k x3 x469000 x469001 x469002 x469003 x469004 x469005 x469006 x469007 x469008 x469009 x469010 x469011 x469012 x469013 x469014 x469015 x469016)
def gharrylaw25_event.j1 : Nat → ByteArray → Int → Int → Int → Int → ByteArray → ByteArray → Bool → Bool → Int → Bool → Int → List (S52) → Int → Int → Int → Int → Int → Option (ByteArray)
  | 0, _, _, _, _, _, _, _, _, _, _, _, _, _, _, _, _, _, _ => none
  | k + 1, x3, x469000, x469001, x469002, x469003, x469004, x469005, x469006, x469007, x469008, x469009, x469010, x469011, x469012, x469013, x469014, x469015, x469016 => if x3.size + 1 ≤ 9223372036854775807 then ((gharrylaw25_low.f x469002).bind fun t473 => (if (x3 ++ (⟨#[32]⟩ : ByteArray)).size + t473.size ≤ 9223372036854775807 then (if x469007 = true then (if x469008 = 0 then (if ((x3 ++ (⟨#[32]⟩ : ByteArray)) ++ t473).size + 3 ≤ 9223372036854775807 then (gharrylaw25_event.j2 k (((x3 ++ (⟨#[32]⟩ : ByteArray)) ++ t473) ++ (⟨#[32, 111, 107]⟩ : ByteArray)) x469000 x469001 x469002 x469003 x469004 x469005 x469006 x469007 x469008 x469009 x469010 x469011 x469012 x469013 x469014 x469015 x469016) else (none)) else (if ((x3 ++ (⟨#[32]⟩ : ByteArray)) ++ t473).size + 7 ≤ 9223372036854775807 then ((gharrylaw25_low.f x469008).bind fun t474 => (if (((x3 ++ (⟨#[32]⟩ : ByteArray)) ++ t473) ++ (⟨#[32, 101, 114, 114, 111, 114, 32]⟩ : ByteArray)).size + t474.size ≤ 9223372036854775807 then (gharrylaw25_event.j2 k ((((x3 ++ (⟨#[32]⟩ : ByteArray)) ++ t473) ++ (⟨#[32, 101, 114, 114, 111, 114, 32]⟩ : ByteArray)) ++ t474) x469000 x469001 x469002 x469003 x469004 x469005 x469006 x469007 x469008 x469009 x469010 x469011 x469012 x469013 x469014 x469015 x469016) else (none))) else (none))) else (if ((x3 ++ (⟨#[32]⟩ : ByteArray)) ++ t473).size + 6 ≤ 9223372036854775807 then (gharrylaw25_event.j2 k (((x3 ++ (⟨#[32]⟩ : ByteArray)) ++ t473) ++ (⟨#[32, 119, 97, 105, 116, 115]⟩ : ByteArray)) x469000 x469001 x469002 x469003 x469004 x469005 x469006 x469007 x469008 x469009 x469010 x469011 x469012 x469013 x469014 x469015 x469016) else (none))) else (none))) else (none)
def gharrylaw25_event.j2 : Nat → ByteArray → Int → Int → Int → Int → ByteArray → ByteArray → Bool → Bool → Int → Bool → Int → List (S52) → Int → Int → Int → Int → Int → Option (ByteArray)
  | 0, _, _, _, _, _, _, _, _, _, _, _, _, _, _, _, _, _, _ => none
  | k + 1, x3, x469000, x469001, x469002, x469003, x469004, x469005, x469006, x469007, x469008, x469009, x469010, x469011, x469012, x469013, x469014, x469015, x469016 => if x469009 = true then (if x3.size + 1 ≤ 9223372036854775807 then ((gharrylaw25_cut.f x469005).bind fun t475 => ((gharryref25_Word.f t475).bind fun t476 => (if (x3 ++ (⟨#[32]⟩ : ByteArray)).size + t476.size ≤ 9223372036854775807 then (gharrylaw25_event.j3 k ((x3 ++ (⟨#[32]⟩ : ByteArray)) ++ t476) x469000 x469001 x469002 x469003 x469004 x469005 x469006 x469007 x469008 x469009 x469010 x469011 x469012 x469013 x469014 x469015 x469016) else (none)))) else (none)) else (gharrylaw25_event.j3 k x3 x469000 x469001 x469002 x469003 x469004 x469005 x469006 x469007 x469008 x469009 x469010 x469011 x469012 x469013 x469014 x469015 x469016)
def gharrylaw25_event.j3 : Nat → ByteArray → Int → Int → Int → Int → ByteArray → ByteArray → Bool → Bool → Int → Bool → Int → List (S52) → Int → Int → Int → Int → Int → Option (ByteArray)
  | 0, _, _, _, _, _, _, _, _, _, _, _, _, _, _, _, _, _, _ => none
  | k + 1, x3, x469000, x469001, x469002, x469003, x469004, x469005, x469006, x469007, x469008, x469009, x469010, x469011, x469012, x469013, x469014, x469015, x469016 => gharrylaw25_event.l0 k x3 0 x469000 x469001 x469002 x469003 x469004 x469005 x469006 x469007 x469008 x469009 x469010 x469011 x469012 x469013 x469014 x469015 x469016
def gharrylaw25_event.l0 : Nat → ByteArray → Int → Int → Int → Int → Int → ByteArray → ByteArray → Bool → Bool → Int → Bool → Int → List (S52) → Int → Int → Int → Int → Int → Option (ByteArray)
  | 0, _, _, _, _, _, _, _, _, _, _, _, _, _, _, _, _, _, _, _ => none
  | k + 1, x3, x4, x469000, x469001, x469002, x469003, x469004, x469005, x469006, x469007, x469008, x469009, x469010, x469011, x469012, x469013, x469014, x469015, x469016 => if x4 < (x469011.length : Int) then (if x3.size + 1 ≤ 9223372036854775807 then (if 0 ≤ x4 then ((gharryref25_Word.f ((rd_T52 x469011 x4).f0)).bind fun t478 => (if (x3 ++ (⟨#[32]⟩ : ByteArray)).size + t478.size ≤ 9223372036854775807 then (if ((x3 ++ (⟨#[32]⟩ : ByteArray)) ++ t478).size + 1 ≤ 9223372036854775807 then ((gharryref25_Word.f ((rd_T52 x469011 x4).f1)).bind fun t480 => (if (((x3 ++ (⟨#[32]⟩ : ByteArray)) ++ t478) ++ (⟨#[32]⟩ : ByteArray)).size + t480.size ≤ 9223372036854775807 then (gharrylaw25_event.l0 k ((((x3 ++ (⟨#[32]⟩ : ByteArray)) ++ t478) ++ (⟨#[32]⟩ : ByteArray)) ++ t480) (wrap64 (x4 + 1)) x469000 x469001 x469002 x469003 x469004 x469005 x469006 x469007 x469008 x469009 x469010 x469011 x469012 x469013 x469014 x469015 x469016) else (none))) else (none)) else (none))) else (none)) else (none)) else (some x3)
end
def gharrylaw25_event.f (k : Nat) (a0_0 : Int) (a0_1 : Int) (a0_2 : Int) (a0_3 : Int) (a0_4 : ByteArray) (a0_5 : ByteArray) (a0_6 : Bool) (a0_7 : Bool) (a0_8 : Int) (a0_9 : Bool) (a0_10 : Int) (l0_11 : List (S52)) (a0_12 : Int) (a0_13 : Int) (a0_14 : Int) (a0_15 : Int) (a0_16 : Int) : Option (ByteArray) := if a0_0 ≥ 1 then (gharrylaw25_event.j0 k (⟨#[110, 111, 110, 101]⟩ : ByteArray) (decide (a0_0 ≤ 21)) a0_0 a0_1 a0_2 a0_3 a0_4 a0_5 a0_6 a0_7 a0_8 a0_9 a0_10 l0_11 a0_12 a0_13 a0_14 a0_15 a0_16) else (gharrylaw25_event.j0 k (⟨#[110, 111, 110, 101]⟩ : ByteArray) false a0_0 a0_1 a0_2 a0_3 a0_4 a0_5 a0_6 a0_7 a0_8 a0_9 a0_10 l0_11 a0_12 a0_13 a0_14 a0_15 a0_16)
theorem gharrylaw25_event.mono_l : ∀ k, (∀ y0 y1 y2 y3 y4 y5 y6 y7 y8 y9 y10 y11 y12 y13 y14 y15 y16 y17 y18, LeO (gharrylaw25_event.j0 k y0 y1 y2 y3 y4 y5 y6 y7 y8 y9 y10 y11 y12 y13 y14 y15 y16 y17 y18) (gharrylaw25_event.j0 (k + 1) y0 y1 y2 y3 y4 y5 y6 y7 y8 y9 y10 y11 y12 y13 y14 y15 y16 y17 y18)) ∧ (∀ y0 y1 y2 y3 y4 y5 y6 y7 y8 y9 y10 y11 y12 y13 y14 y15 y16 y17, LeO (gharrylaw25_event.j1 k y0 y1 y2 y3 y4 y5 y6 y7 y8 y9 y10 y11 y12 y13 y14 y15 y16 y17) (gharrylaw25_event.j1 (k + 1) y0 y1 y2 y3 y4 y5 y6 y7 y8 y9 y10 y11 y12 y13 y14 y15 y16 y17)) ∧ (∀ y0 y1 y2 y3 y4 y5 y6 y7 y8 y9 y10 y11 y12 y13 y14 y15 y16 y17, LeO (gharrylaw25_event.j2 k y0 y1 y2 y3 y4 y5 y6 y7 y8 y9 y10 y11 y12 y13 y14 y15 y16 y17) (gharrylaw25_event.j2 (k + 1) y0 y1 y2 y3 y4 y5 y6 y7 y8 y9 y10 y11 y12 y13 y14 y15 y16 y17)) ∧ (∀ y0 y1 y2 y3 y4 y5 y6 y7 y8 y9 y10 y11 y12 y13 y14 y15 y16 y17, LeO (gharrylaw25_event.j3 k y0 y1 y2 y3 y4 y5 y6 y7 y8 y9 y10 y11 y12 y13 y14 y15 y16 y17) (gharrylaw25_event.j3 (k + 1) y0 y1 y2 y3 y4 y5 y6 y7 y8 y9 y10 y11 y12 y13 y14 y15 y16 y17)) ∧ (∀ y0 y1 y2 y3 y4 y5 y6 y7 y8 y9 y10 y11 y12 y13 y14 y15 y16 y17 y18, LeO (gharrylaw25_event.l0 k y0 y1 y2 y3 y4 y5 y6 y7 y8 y9 y10 y11 y12 y13 y14 y15 y16 y17 y18) (gharrylaw25_event.l0 (k + 1) y0 y1 y2 y3 y4 y5 y6 y7 y8 y9 y10 y11 y12 y13 y14 y15 y16 y17 y18))
  | 0 => ⟨fun _ _ _ _ _ _ _ _ _ _ _ _ _ _ _ _ _ _ _ r h => by simp [gharrylaw25_event.j0] at h, fun _ _ _ _ _ _ _ _ _ _ _ _ _ _ _ _ _ _ r h => by simp [gharrylaw25_event.j1] at h, fun _ _ _ _ _ _ _ _ _ _ _ _ _ _ _ _ _ _ r h => by simp [gharrylaw25_event.j2] at h, fun _ _ _ _ _ _ _ _ _ _ _ _ _ _ _ _ _ _ r h => by simp [gharrylaw25_event.j3] at h, fun _ _ _ _ _ _ _ _ _ _ _ _ _ _ _ _ _ _ _ r h => by simp [gharrylaw25_event.l0] at h⟩
  | k + 1 => by
    obtain ⟨ih0, ih1, ih2, ih3, ih4⟩ := gharrylaw25_event.mono_l k
    refine ⟨?_, ?_, ?_, ?_, ?_⟩
    · intro y0 y1 y2 y3 y4 y5 y6 y7 y8 y9 y10 y11 y12 y13 y14 y15 y16 y17 y18
      unfold gharrylaw25_event.j0
      repeat' first
      | (with_reducible exact ih0 _ _ _ _ _ _ _ _ _ _ _ _ _ _ _ _ _ _ _)
      | (with_reducible exact ih1 _ _ _ _ _ _ _ _ _ _ _ _ _ _ _ _ _ _)
      | (with_reducible exact ih2 _ _ _ _ _ _ _ _ _ _ _ _ _ _ _ _ _ _)
      | (with_reducible exact ih3 _ _ _ _ _ _ _ _ _ _ _ _ _ _ _ _ _ _)
      | (with_reducible exact ih4 _ _ _ _ _ _ _ _ _ _ _ _ _ _ _ _ _ _ _)
      | (with_reducible exact LeO.refl _)
      | (with_reducible exact LeO.none _)
      | (with_reducible refine LeO.ite ?_ ?_)
      | (with_reducible refine LeO.bind ?_ (fun _ => ?_))
      | exact ih0 _ _ _ _ _ _ _ _ _ _ _ _ _ _ _ _ _ _ _
      | exact ih1 _ _ _ _ _ _ _ _ _ _ _ _ _ _ _ _ _ _
      | exact ih2 _ _ _ _ _ _ _ _ _ _ _ _ _ _ _ _ _ _
      | exact ih3 _ _ _ _ _ _ _ _ _ _ _ _ _ _ _ _ _ _
      | exact ih4 _ _ _ _ _ _ _ _ _ _ _ _ _ _ _ _ _ _ _
      | exact LeO.none _
      | refine LeO.ite ?_ ?_
      | refine LeO.bind ?_ (fun _ => ?_)
    · intro y0 y1 y2 y3 y4 y5 y6 y7 y8 y9 y10 y11 y12 y13 y14 y15 y16 y17
      unfold gharrylaw25_event.j1
      repeat' first
      | (with_reducible exact ih0 _ _ _ _ _ _ _ _ _ _ _ _ _ _ _ _ _ _ _)
      | (with_reducible exact ih1 _ _ _ _ _ _ _ _ _ _ _ _ _ _ _ _ _ _)
      | (with_reducible exact ih2 _ _ _ _ _ _ _ _ _ _ _ _ _ _ _ _ _ _)
      | (with_reducible exact ih3 _ _ _ _ _ _ _ _ _ _ _ _ _ _ _ _ _ _)
      | (with_reducible exact ih4 _ _ _ _ _ _ _ _ _ _ _ _ _ _ _ _ _ _ _)
      | (with_reducible exact LeO.refl _)
      | (with_reducible exact LeO.none _)
      | (with_reducible refine LeO.ite ?_ ?_)
      | (with_reducible refine LeO.bind ?_ (fun _ => ?_))
      | exact ih0 _ _ _ _ _ _ _ _ _ _ _ _ _ _ _ _ _ _ _
      | exact ih1 _ _ _ _ _ _ _ _ _ _ _ _ _ _ _ _ _ _
      | exact ih2 _ _ _ _ _ _ _ _ _ _ _ _ _ _ _ _ _ _
      | exact ih3 _ _ _ _ _ _ _ _ _ _ _ _ _ _ _ _ _ _
      | exact ih4 _ _ _ _ _ _ _ _ _ _ _ _ _ _ _ _ _ _ _
      | exact LeO.none _
      | refine LeO.ite ?_ ?_
      | refine LeO.bind ?_ (fun _ => ?_)
    · intro y0 y1 y2 y3 y4 y5 y6 y7 y8 y9 y10 y11 y12 y13 y14 y15 y16 y17
      unfold gharrylaw25_event.j2
      repeat' first
      | (with_reducible exact ih0 _ _ _ _ _ _ _ _ _ _ _ _ _ _ _ _ _ _ _)
      | (with_reducible exact ih1 _ _ _ _ _ _ _ _ _ _ _ _ _ _ _ _ _ _)
      | (with_reducible exact ih2 _ _ _ _ _ _ _ _ _ _ _ _ _ _ _ _ _ _)
      | (with_reducible exact ih3 _ _ _ _ _ _ _ _ _ _ _ _ _ _ _ _ _ _)
      | (with_reducible exact ih4 _ _ _ _ _ _ _ _ _ _ _ _ _ _ _ _ _ _ _)
      | (with_reducible exact LeO.refl _)
      | (with_reducible exact LeO.none _)
      | (with_reducible refine LeO.ite ?_ ?_)
      | (with_reducible refine LeO.bind ?_ (fun _ => ?_))
      | exact ih0 _ _ _ _ _ _ _ _ _ _ _ _ _ _ _ _ _ _ _
      | exact ih1 _ _ _ _ _ _ _ _ _ _ _ _ _ _ _ _ _ _
      | exact ih2 _ _ _ _ _ _ _ _ _ _ _ _ _ _ _ _ _ _
      | exact ih3 _ _ _ _ _ _ _ _ _ _ _ _ _ _ _ _ _ _
      | exact ih4 _ _ _ _ _ _ _ _ _ _ _ _ _ _ _ _ _ _ _
      | exact LeO.none _
      | refine LeO.ite ?_ ?_
      | refine LeO.bind ?_ (fun _ => ?_)
    · intro y0 y1 y2 y3 y4 y5 y6 y7 y8 y9 y10 y11 y12 y13 y14 y15 y16 y17
      unfold gharrylaw25_event.j3
      repeat' first
      | (with_reducible exact ih0 _ _ _ _ _ _ _ _ _ _ _ _ _ _ _ _ _ _ _)
      | (with_reducible exact ih1 _ _ _ _ _ _ _ _ _ _ _ _ _ _ _ _ _ _)
      | (with_reducible exact ih2 _ _ _ _ _ _ _ _ _ _ _ _ _ _ _ _ _ _)
      | (with_reducible exact ih3 _ _ _ _ _ _ _ _ _ _ _ _ _ _ _ _ _ _)
      | (with_reducible exact ih4 _ _ _ _ _ _ _ _ _ _ _ _ _ _ _ _ _ _ _)
      | (with_reducible exact LeO.refl _)
      | (with_reducible exact LeO.none _)
      | (with_reducible refine LeO.ite ?_ ?_)
      | (with_reducible refine LeO.bind ?_ (fun _ => ?_))
      | exact ih0 _ _ _ _ _ _ _ _ _ _ _ _ _ _ _ _ _ _ _
      | exact ih1 _ _ _ _ _ _ _ _ _ _ _ _ _ _ _ _ _ _
      | exact ih2 _ _ _ _ _ _ _ _ _ _ _ _ _ _ _ _ _ _
      | exact ih3 _ _ _ _ _ _ _ _ _ _ _ _ _ _ _ _ _ _
      | exact ih4 _ _ _ _ _ _ _ _ _ _ _ _ _ _ _ _ _ _ _
      | exact LeO.none _
      | refine LeO.ite ?_ ?_
      | refine LeO.bind ?_ (fun _ => ?_)
    · intro y0 y1 y2 y3 y4 y5 y6 y7 y8 y9 y10 y11 y12 y13 y14 y15 y16 y17 y18
      unfold gharrylaw25_event.l0
      repeat' first
      | (with_reducible exact ih0 _ _ _ _ _ _ _ _ _ _ _ _ _ _ _ _ _ _ _)
      | (with_reducible exact ih1 _ _ _ _ _ _ _ _ _ _ _ _ _ _ _ _ _ _)
      | (with_reducible exact ih2 _ _ _ _ _ _ _ _ _ _ _ _ _ _ _ _ _ _)
      | (with_reducible exact ih3 _ _ _ _ _ _ _ _ _ _ _ _ _ _ _ _ _ _)
      | (with_reducible exact ih4 _ _ _ _ _ _ _ _ _ _ _ _ _ _ _ _ _ _ _)
      | (with_reducible exact LeO.refl _)
      | (with_reducible exact LeO.none _)
      | (with_reducible refine LeO.ite ?_ ?_)
      | (with_reducible refine LeO.bind ?_ (fun _ => ?_))
      | exact ih0 _ _ _ _ _ _ _ _ _ _ _ _ _ _ _ _ _ _ _
      | exact ih1 _ _ _ _ _ _ _ _ _ _ _ _ _ _ _ _ _ _
      | exact ih2 _ _ _ _ _ _ _ _ _ _ _ _ _ _ _ _ _ _
      | exact ih3 _ _ _ _ _ _ _ _ _ _ _ _ _ _ _ _ _ _
      | exact ih4 _ _ _ _ _ _ _ _ _ _ _ _ _ _ _ _ _ _ _
      | exact LeO.none _
      | refine LeO.ite ?_ ?_
      | refine LeO.bind ?_ (fun _ => ?_)
theorem gharrylaw25_event.mono : ∀ a0 a1 a2 a3 a4 a5 a6 a7 a8 a9 a10 a11 a12 a13 a14 a15 a16 k, LeO (gharrylaw25_event.f k a0 a1 a2 a3 a4 a5 a6 a7 a8 a9 a10 a11 a12 a13 a14 a15 a16) (gharrylaw25_event.f (k + 1) a0 a1 a2 a3 a4 a5 a6 a7 a8 a9 a10 a11 a12 a13 a14 a15 a16) := by
  intro a0 a1 a2 a3 a4 a5 a6 a7 a8 a9 a10 a11 a12 a13 a14 a15 a16 k
  obtain ⟨ih0, ih1, ih2, ih3, ih4⟩ := gharrylaw25_event.mono_l k
  unfold gharrylaw25_event.f
  repeat' first
      | (with_reducible exact ih0 _ _ _ _ _ _ _ _ _ _ _ _ _ _ _ _ _ _ _)
      | (with_reducible exact ih1 _ _ _ _ _ _ _ _ _ _ _ _ _ _ _ _ _ _)
      | (with_reducible exact ih2 _ _ _ _ _ _ _ _ _ _ _ _ _ _ _ _ _ _)
      | (with_reducible exact ih3 _ _ _ _ _ _ _ _ _ _ _ _ _ _ _ _ _ _)
      | (with_reducible exact ih4 _ _ _ _ _ _ _ _ _ _ _ _ _ _ _ _ _ _ _)
      | (with_reducible exact LeO.refl _)
      | (with_reducible exact LeO.none _)
      | (with_reducible refine LeO.ite ?_ ?_)
      | (with_reducible refine LeO.bind ?_ (fun _ => ?_))
      | exact ih0 _ _ _ _ _ _ _ _ _ _ _ _ _ _ _ _ _ _ _
      | exact ih1 _ _ _ _ _ _ _ _ _ _ _ _ _ _ _ _ _ _
      | exact ih2 _ _ _ _ _ _ _ _ _ _ _ _ _ _ _ _ _ _
      | exact ih3 _ _ _ _ _ _ _ _ _ _ _ _ _ _ _ _ _ _
      | exact ih4 _ _ _ _ _ _ _ _ _ _ _ _ _ _ _ _ _ _ _
      | exact LeO.none _
      | refine LeO.ite ?_ ?_
      | refine LeO.bind ?_ (fun _ => ?_)
def gharrylaw25_event.T15 : Bool × List (List Nat × List Nat) := (true, [([], []), ([0], [0]), ([], []), ([2], [2]), ([], []), ([3, 4], [3, 4]), ([5], [5]), ([6], [6]), ([7], [7]), ([1, 8], [1, 8]), ([9], [9]), ([], []), ([11], [11]), ([], []), ([12, 13], [12, 13]), ([14], [14]), ([15], [15]), ([16, 8], [16]), ([10, 17], [10, 17]), ([18, 17, 0, 1, 2, 3, 4, 5, 6, 7, 8, 9, 10, 11, 12, 13, 14, 15, 16, 17, 18], [0, 18])])
def gharrylaw25_event.B15 : List Nat := [0, 1, 0, 4, 0, 28, 60, 124, 252, 511, 1023, 0, 2048, 0, 14336, 30720, 63488, 129532, 262143, 524287]
theorem gharrylaw25_event.tab15 : rtab .any (opsOf Tryd.f28 15) = gharrylaw25_event.T15 := by kernel_rfl
theorem gharrylaw25_event.bits15 : waitsOk gharrylaw25_event.T15.2 gharrylaw25_event.B15 = true := by kernel_rfl
set_option maxHeartbeats 8000000 in
set_option maxRecDepth 100000 in
theorem gharrylaw25_event.calls (k : Nat) (a0_0 : Int) (a0_1 : Int) (a0_2 : Int) (a0_3 : Int) (a0_4 : ByteArray) (a0_5 : ByteArray) (a0_6 : Bool) (a0_7 : Bool) (a0_8 : Int) (a0_9 : Bool) (a0_10 : Int) (A0_11 : Option Addr) (c0_11 : Nat) (l0_11 : List (S52)) (a0_12 : Int) (a0_13 : Int) (a0_14 : Int) (a0_15 : Int) (a0_16 : Int) (r : ByteArray) (w : World) (hr0_11 : Kd.C k52 w A0_11 l0_11.length l0_11) (hc0_11 : l0_11.length ≤ c0_11) (h : gharrylaw25_event.f k a0_0 a0_1 a0_2 a0_3 a0_4 a0_5 a0_6 a0_7 a0_8 a0_9 a0_10 l0_11 a0_12 a0_13 a0_14 a0_15 a0_16 = some r) :
    Calls Tryd.prog 28 #[.agg #[.int .i64 a0_0, .int .i64 a0_1, .int .i64 a0_2, .int .i64 a0_3, .string a0_4, .string a0_5, .bool a0_6, .bool a0_7, .int .i64 a0_8, .bool a0_9, .int .i64 a0_10, .slice A0_11 l0_11.length c0_11, .int .i64 a0_12, .int .i64 a0_13, .int .i64 a0_14, .int .i64 a0_15, .int .i64 a0_16]] w fun e w' => e = .returned (.string r) ∧ Below w.heap.size w w' := by
  have hu50 := Tryd.underlying50
  have HR0_11 := Aside0.mk hr0_11
  have HC0_11 := Aside0.mk hc0_11
  clear hr0_11 hc0_11
  have HB := Aside0.mk (Below.refl w.heap.size w)
  have H : (if a0_0 ≥ 1 then (gharrylaw25_event.j0 k (⟨#[110, 111, 110, 101]⟩ : ByteArray) (decide (a0_0 ≤ 21)) a0_0 a0_1 a0_2 a0_3 a0_4 a0_5 a0_6 a0_7 a0_8 a0_9 a0_10 l0_11 a0_12 a0_13 a0_14 a0_15 a0_16) else (gharrylaw25_event.j0 k (⟨#[110, 111, 110, 101]⟩ : ByteArray) false a0_0 a0_1 a0_2 a0_3 a0_4 a0_5 a0_6 a0_7 a0_8 a0_9 a0_10 l0_11 a0_12 a0_13 a0_14 a0_15 a0_16)) = some r := h
  clear h
  have HC2 := Aside0.mk H
  clear H
  go_enter Tryd.func28, Tryd.ntmps28
  go_upto_region 2 with (first | ((with_reducible refine gate_dst (N := 1) rfl ?_); refine box_event ?hg (N := 1) ?hd (cs := #[.int .i64 a0_0, .int .i64 a0_1, .int .i64 a0_2, .int .i64 a0_3, .string a0_4, .string a0_5, .bool a0_6, .bool a0_7, .int .i64 a0_8, .bool a0_9, .int .i64 a0_10, .slice A0_11 l0_11.length c0_11, .int .i64 a0_12, .int .i64 a0_13, .int .i64 a0_14, .int .i64 a0_15, .int .i64 a0_16]) (t := 50) ?hr ?_; (case hd => rfl); (case hg => rfl); (case hr => first | (go_simp; done) | (go_simp; rfl)); intro gb468 hg w3 hbox hb; have n0_ := Aside0.mk (below_step (by repeat (first | (with_reducible first | exact HB.out | apply below_alloc | apply pw_below_drewN | apply below_drew1) | exact HB.out)) hb); have n1_ := Aside0.mk (hbox); have n2_ := Aside0.mk ((by rw [hg]; exact (below_size (by repeat (first | (with_reducible first | exact HB.out | apply below_alloc | apply pw_below_drewN | apply below_drew1) | exact HB.out))) : w.heap.size ≤ gb468)); have n3_ := Aside0.mk ((by rw [hg]; exact (below_size (by repeat (first | (with_reducible first | exact HB.out | apply below_alloc | apply pw_below_drewN | apply below_drew1) | exact HB.out))) : w.heap.size ≤ gb468)); clear HB; have HB := n0_; have BK468 := n1_; have GW468 := n2_; have GE468 := n3_; clear n0_ n1_ n2_ n3_; clear hb hbox hg))
  (try simp only [Act.put, List.setIfInBounds_toArray, List.set_cons_zero, List.set_cons_succ])
  go_cut [12] (fun v12 wc => ∃ (kq : Nat) (x12_1 : Bool), v12 = .bool x12_1 ∧ Aside0 (gharrylaw25_event.j0 kq (⟨#[110, 111, 110, 101]⟩ : ByteArray) x12_1 a0_0 a0_1 a0_2 a0_3 a0_4 a0_5 a0_6 a0_7 a0_8 a0_9 a0_10 l0_11 a0_12 a0_13 a0_14 a0_15 a0_16 = some r) ∧ Aside0 (kq ≤ k) ∧ Aside0 (wc.heap[gb468]? = some (.cells #[.int .i64 a0_0, .int .i64 a0_1, .int .i64 a0_2, .int .i64 a0_3, .string a0_4, .string a0_5, .bool a0_6, .bool a0_7, .int .i64 a0_8, .bool a0_9, .int .i64 a0_10, (.slice A0_11 l0_11.length c0_11), .int .i64 a0_12, .int .i64 a0_13, .int .i64 a0_14, .int .i64 a0_15, .int .i64 a0_16] 50 (0, 0))) ∧ Aside0 (Below w.heap.size w wc))
  case first =>
    have H := HC2.out
    clear HC2
    by_cases c4 : a0_0 ≥ 1
    · rw [if_pos c4] at H
      have c4b0 : decide (1 ≤ a0_0) = true := decide_eq_true c4
      clear c4
      (first | rw [c4b0] | (simp only [i64_w, i32_w]; rw [c4b0]) | skip)
      have H' := Aside0.mk H
      clear H
      have hcz5_0 : w3.cell? ⟨gb468, 0, none⟩ = some (.int .i64 a0_0) := (blk_cell BK468.out 0).trans rfl
      have hcz5_1 : w3.cell? ⟨gb468, 1, none⟩ = some (.int .i64 a0_1) := (blk_cell BK468.out 1).trans rfl
      have hcz5_2 : w3.cell? ⟨gb468, 2, none⟩ = some (.int .i64 a0_2) := (blk_cell BK468.out 2).trans rfl
      have hcz5_3 : w3.cell? ⟨gb468, 3, none⟩ = some (.int .i64 a0_3) := (blk_cell BK468.out 3).trans rfl
      have hcz5_4 : w3.cell? ⟨gb468, 4, none⟩ = some (.string a0_4) := (blk_cell BK468.out 4).trans rfl
      have hcz5_5 : w3.cell? ⟨gb468, 5, none⟩ = some (.string a0_5) := (blk_cell BK468.out 5).trans rfl
      have hcz5_6 : w3.cell? ⟨gb468, 6, none⟩ = some (.bool a0_6) := (blk_cell BK468.out 6).trans rfl
      have hcz5_7 : w3.cell? ⟨gb468, 7, none⟩ = some (.bool a0_7) := (blk_cell BK468.out 7).trans rfl
      have hcz5_8 : w3.cell? ⟨gb468, 8, none⟩ = some (.int .i64 a0_8) := (blk_cell BK468.out 8).trans rfl
      have hcz5_9 : w3.cell? ⟨gb468, 9, none⟩ = some (.bool a0_9) := (blk_cell BK468.out 9).trans rfl
      have hcz5_10 : w3.cell? ⟨gb468, 10, none⟩ = some (.int .i64 a0_10) := (blk_cell BK468.out 10).trans rfl
      have hcz5_11 : w3.cell? ⟨gb468, 11, none⟩ = some (.slice A0_11 l0_11.length c0_11) := (blk_cell BK468.out 11).trans rfl
      have hcz5_12 : w3.cell? ⟨gb468, 12, none⟩ = some (.int .i64 a0_12) := (blk_cell BK468.out 12).trans rfl
      have hcz5_13 : w3.cell? ⟨gb468, 13, none⟩ = some (.int .i64 a0_13) := (blk_cell BK468.out 13).trans rfl
      have hcz5_14 : w3.cell? ⟨gb468, 14, none⟩ = some (.int .i64 a0_14) := (blk_cell BK468.out 14).trans rfl
      have hcz5_15 : w3.cell? ⟨gb468, 15, none⟩ = some (.int .i64 a0_15) := (blk_cell BK468.out 15).trans rfl
      have hcz5_16 : w3.cell? ⟨gb468, 16, none⟩ = some (.int .i64 a0_16) := (blk_cell BK468.out 16).trans rfl
      have hfz5_0 := blk_frozen BK468.out 0
      have hfz5_1 := blk_frozen BK468.out 1
      have hfz5_2 := blk_frozen BK468.out 2
      have hfz5_3 := blk_frozen BK468.out 3
      have hfz5_4 := blk_frozen BK468.out 4
      have hfz5_5 := blk_frozen BK468.out 5
      have hfz5_6 := blk_frozen BK468.out 6
      have hfz5_7 := blk_frozen BK468.out 7
      have hfz5_8 := blk_frozen BK468.out 8
      have hfz5_9 := blk_frozen BK468.out 9
      have hfz5_10 := blk_frozen BK468.out 10
      have hfz5_11 := blk_frozen BK468.out 11
      have hfz5_12 := blk_frozen BK468.out 12
      have hfz5_13 := blk_frozen BK468.out 13
      have hfz5_14 := blk_frozen BK468.out 14
      have hfz5_15 := blk_frozen BK468.out 15
      have hfz5_16 := blk_frozen BK468.out 16
      go_wp2
      go_meet
      case rel => exact ⟨_, (decide (a0_0 ≤ 21)), (by first | rfl | (simp; done) | (simp [*]; done)), H', ⟨by first | omega | exact Nat.le_refl _⟩, ⟨by (with_reducible repeat (first | refine blk_drewN ?_ _ | refine blk_drew ?_ | refine blk_alloc ?_ _)); exact BK468.out⟩, ⟨by repeat (first | (with_reducible first | exact HB.out | apply below_alloc | apply pw_below_drewN | apply below_drew1 | refine below_set ?_ GE468.out) | exact HB.out)⟩⟩
    · rw [if_neg c4] at H
      have c4b0 : decide (1 ≤ a0_0) = false := decide_eq_false c4
      clear c4
      (first | rw [c4b0] | (simp only [i64_w, i32_w]; rw [c4b0]) | skip)
      have H' := Aside0.mk H
      clear H
      have hcz6_0 : w3.cell? ⟨gb468, 0, none⟩ = some (.int .i64 a0_0) := (blk_cell BK468.out 0).trans rfl
      have hcz6_1 : w3.cell? ⟨gb468, 1, none⟩ = some (.int .i64 a0_1) := (blk_cell BK468.out 1).trans rfl
      have hcz6_2 : w3.cell? ⟨gb468, 2, none⟩ = some (.int .i64 a0_2) := (blk_cell BK468.out 2).trans rfl
      have hcz6_3 : w3.cell? ⟨gb468, 3, none⟩ = some (.int .i64 a0_3) := (blk_cell BK468.out 3).trans rfl
      have hcz6_4 : w3.cell? ⟨gb468, 4, none⟩ = some (.string a0_4) := (blk_cell BK468.out 4).trans rfl
      have hcz6_5 : w3.cell? ⟨gb468, 5, none⟩ = some (.string a0_5) := (blk_cell BK468.out 5).trans rfl
      have hcz6_6 : w3.cell? ⟨gb468, 6, none⟩ = some (.bool a0_6) := (blk_cell BK468.out 6).trans rfl
      have hcz6_7 : w3.cell? ⟨gb468, 7, none⟩ = some (.bool a0_7) := (blk_cell BK468.out 7).trans rfl
      have hcz6_8 : w3.cell? ⟨gb468, 8, none⟩ = some (.int .i64 a0_8) := (blk_cell BK468.out 8).trans rfl
      have hcz6_9 : w3.cell? ⟨gb468, 9, none⟩ = some (.bool a0_9) := (blk_cell BK468.out 9).trans rfl
      have hcz6_10 : w3.cell? ⟨gb468, 10, none⟩ = some (.int .i64 a0_10) := (blk_cell BK468.out 10).trans rfl
      have hcz6_11 : w3.cell? ⟨gb468, 11, none⟩ = some (.slice A0_11 l0_11.length c0_11) := (blk_cell BK468.out 11).trans rfl
      have hcz6_12 : w3.cell? ⟨gb468, 12, none⟩ = some (.int .i64 a0_12) := (blk_cell BK468.out 12).trans rfl
      have hcz6_13 : w3.cell? ⟨gb468, 13, none⟩ = some (.int .i64 a0_13) := (blk_cell BK468.out 13).trans rfl
      have hcz6_14 : w3.cell? ⟨gb468, 14, none⟩ = some (.int .i64 a0_14) := (blk_cell BK468.out 14).trans rfl
      have hcz6_15 : w3.cell? ⟨gb468, 15, none⟩ = some (.int .i64 a0_15) := (blk_cell BK468.out 15).trans rfl
      have hcz6_16 : w3.cell? ⟨gb468, 16, none⟩ = some (.int .i64 a0_16) := (blk_cell BK468.out 16).trans rfl
      have hfz6_0 := blk_frozen BK468.out 0
      have hfz6_1 := blk_frozen BK468.out 1
      have hfz6_2 := blk_frozen BK468.out 2
      have hfz6_3 := blk_frozen BK468.out 3
      have hfz6_4 := blk_frozen BK468.out 4
      have hfz6_5 := blk_frozen BK468.out 5
      have hfz6_6 := blk_frozen BK468.out 6
      have hfz6_7 := blk_frozen BK468.out 7
      have hfz6_8 := blk_frozen BK468.out 8
      have hfz6_9 := blk_frozen BK468.out 9
      have hfz6_10 := blk_frozen BK468.out 10
      have hfz6_11 := blk_frozen BK468.out 11
      have hfz6_12 := blk_frozen BK468.out 12
      have hfz6_13 := blk_frozen BK468.out 13
      have hfz6_14 := blk_frozen BK468.out 14
      have hfz6_15 := blk_frozen BK468.out 15
      have hfz6_16 := blk_frozen BK468.out 16
      go_wp2
      go_meet
      case rel => exact ⟨_, (false), (by first | rfl | (simp; done) | (simp [*]; done)), H', ⟨by first | omega | exact Nat.le_refl _⟩, ⟨by (with_reducible repeat (first | refine blk_drewN ?_ _ | refine blk_drew ?_ | refine blk_alloc ?_ _)); exact BK468.out⟩, ⟨by repeat (first | (with_reducible first | exact HB.out | apply below_alloc | apply pw_below_drewN | apply below_drew1 | refine below_set ?_ GE468.out) | exact HB.out)⟩⟩
  case rest =>
    clear HC2
    try clear c2
    try clear p2
    try clear c4
    try clear c4b0
    try clear hcz5_0
    try clear hcz5_1
    try clear hcz5_10
    try clear hcz5_11
    try clear hcz5_12
    try clear hcz5_13
    try clear hcz5_14
    try clear hcz5_15
    try clear hcz5_16
    try clear hcz5_2
    try clear hcz5_3
    try clear hcz5_4
    try clear hcz5_5
    try clear hcz5_6
    try clear hcz5_7
    try clear hcz5_8
    try clear hcz5_9
    try clear hcz6_0
    try clear hcz6_1
    try clear hcz6_10
    try clear hcz6_11
    try clear hcz6_12
    try clear hcz6_13
    try clear hcz6_14
    try clear hcz6_15
    try clear hcz6_16
    try clear hcz6_2
    try clear hcz6_3
    try clear hcz6_4
    try clear hcz6_5
    try clear hcz6_6
    try clear hcz6_7
    try clear hcz6_8
    try clear hcz6_9
    try clear hfz5_0
    try clear hfz5_1
    try clear hfz5_10
    try clear hfz5_11
    try clear hfz5_12
    try clear hfz5_13
    try clear hfz5_14
    try clear hfz5_15
    try clear hfz5_16
    try clear hfz5_2
    try clear hfz5_3
    try clear hfz5_4
    try clear hfz5_5
    try clear hfz5_6
    try clear hfz5_7
    try clear hfz5_8
    try clear hfz5_9
    try clear hfz6_0
    try clear hfz6_1
    try clear hfz6_10
    try clear hfz6_11
    try clear hfz6_12
    try clear hfz6_13
    try clear hfz6_14
    try clear hfz6_15
    try clear hfz6_16
    try clear hfz6_2
    try clear hfz6_3
    try clear hfz6_4
    try clear hfz6_5
    try clear hfz6_6
    try clear hfz6_7
    try clear hfz6_8
    try clear hfz6_9
    obtain ⟨kq, x12_1, rfl, HA, HJ1, BK468, HB⟩ := hcut
    cases kq with
    | zero => exact absurd HA.out (by simp [gharrylaw25_event.j0])
    | succ kj1 =>
      have H := HA.out
      clear HA
      simp only [gharrylaw25_event.j0] at H
      have HC7 := Aside0.mk H
      clear H
      go_upto_if 12 with (fail)
      go_cut [3] (fun v3 wc => ∃ (kq : Nat) (x3_6 : ByteArray), v3 = .string x3_6 ∧ Aside0 (gharrylaw25_event.j1 kq x3_6 a0_0 a0_1 a0_2 a0_3 a0_4 a0_5 a0_6 a0_7 a0_8 a0_9 a0_10 l0_11 a0_12 a0_13 a0_14 a0_15 a0_16 = some r) ∧ Aside0 (kq ≤ kj1) ∧ Aside0 (wc.heap[gb468]? = some (.cells #[.int .i64 a0_0, .int .i64 a0_1, .int .i64 a0_2, .int .i64 a0_3, .string a0_4, .string a0_5, .bool a0_6, .bool a0_7, .int .i64 a0_8, .bool a0_9, .int .i64 a0_10, (.slice A0_11 l0_11.length c0_11), .int .i64 a0_12, .int .i64 a0_13, .int .i64 a0_14, .int .i64 a0_15, .int .i64 a0_16] 50 (0, 0))) ∧ Aside0 (Below w.heap.size w wc))
      case first =>
        have H := HC7.out
        clear HC7
        by_cases c8 : x12_1 = true
        · subst c8
          have H1 : ((gharryref25_Words.f).bind fun t469 => (if 0 ≤ a0_0 then (if a0_0 < (t469.length : Int) then (gharrylaw25_event.j1 kj1 (rdOf ByteArray.empty t469 a0_0) a0_0 a0_1 a0_2 a0_3 a0_4 a0_5 a0_6 a0_7 a0_8 a0_9 a0_10 l0_11 a0_12 a0_13 a0_14 a0_15 a0_16) else (none)) else (none))) = some r := by rw [if_pos rfl] at H; exact H
          clear H
          have H := H1
          clear H1
          replace H := Option.bind_eq_some_iff.mp H
          obtain ⟨t469, A90, H⟩ := H
          replace H : (if 0 ≤ a0_0 then (if a0_0 < (t469.length : Int) then (gharrylaw25_event.j1 kj1 (rdOf ByteArray.empty t469 a0_0) a0_0 a0_1 a0_2 a0_3 a0_4 a0_5 a0_6 a0_7 a0_8 a0_9 a0_10 l0_11 a0_12 a0_13 a0_14 a0_15 a0_16) else (none)) else (none)) = some r := H
          have A9 := Aside0.mk A90
          clear A90
          by_cases c10 : 0 ≤ a0_0
          · rw [if_pos c10] at H
            have c10b0 : decide (0 ≤ a0_0) = true := decide_eq_true c10
            clear c10
            (first | rw [c10b0] | (simp only [i64_w, i32_w]; rw [c10b0]) | skip)
            by_cases c11 : a0_0 < (t469.length : Int)
            · rw [if_pos c11] at H
              have c11b0 : decide (a0_0 < (t469.length : Int)) = true := decide_eq_true c11
              clear c11
              have H' := Aside0.mk H
              clear H
              try go_wp2
              have n0_ := Aside0.mk (blk_drew BK468.out)
              have n1_ := Aside0.mk (below_drew1 HB.out)
              clear BK468
              clear HB
              have BK468 := n0_
              have HB := n1_
              clear n0_ n1_
              refine start_ (n := 6) (S := fun w' => w'.cell? ⟨gb468, 0, none⟩ = some (.int .i64 a0_0) ∧ w'.cell? ⟨gb468, 1, none⟩ = some (.int .i64 a0_1) ∧ w'.cell? ⟨gb468, 2, none⟩ = some (.int .i64 a0_2) ∧ w'.cell? ⟨gb468, 3, none⟩ = some (.int .i64 a0_3) ∧ w'.cell? ⟨gb468, 4, none⟩ = some (.string a0_4) ∧ w'.cell? ⟨gb468, 5, none⟩ = some (.string a0_5) ∧ w'.cell? ⟨gb468, 6, none⟩ = some (.bool a0_6) ∧ w'.cell? ⟨gb468, 7, none⟩ = some (.bool a0_7) ∧ w'.cell? ⟨gb468, 8, none⟩ = some (.int .i64 a0_8) ∧ w'.cell? ⟨gb468, 9, none⟩ = some (.bool a0_9) ∧ w'.cell? ⟨gb468, 10, none⟩ = some (.int .i64 a0_10) ∧ w'.cell? ⟨gb468, 11, none⟩ = some (.slice A0_11 l0_11.length c0_11) ∧ w'.cell? ⟨gb468, 12, none⟩ = some (.int .i64 a0_12) ∧ w'.cell? ⟨gb468, 13, none⟩ = some (.int .i64 a0_13) ∧ w'.cell? ⟨gb468, 14, none⟩ = some (.int .i64 a0_14) ∧ w'.cell? ⟨gb468, 15, none⟩ = some (.int .i64 a0_15) ∧ w'.cell? ⟨gb468, 16, none⟩ = some (.int .i64 a0_16)) (ds := []) #[false, false, false, false, false, false] (by kernel_rfl) rfl rfl ⟨(blk_cell BK468.out 0).trans rfl, (blk_cell BK468.out 1).trans rfl, (blk_cell BK468.out 2).trans rfl, (blk_cell BK468.out 3).trans rfl, (blk_cell BK468.out 4).trans rfl, (blk_cell BK468.out 5).trans rfl, (blk_cell BK468.out 6).trans rfl, (blk_cell BK468.out 7).trans rfl, (blk_cell BK468.out 8).trans rfl, (blk_cell BK468.out 9).trans rfl, (blk_cell BK468.out 10).trans rfl, (blk_cell BK468.out 11).trans rfl, (blk_cell BK468.out 12).trans rfl, (blk_cell BK468.out 13).trans rfl, (blk_cell BK468.out 14).trans rfl, (blk_cell BK468.out 15).trans rfl, (blk_cell BK468.out 16).trans rfl⟩ (fun hHeld => ?_)
              generalize wc.drew = w12 at BK468 HB hHeld ⊢
              refine pure_ (i := 1) (N := some 14) (v := ?_) (a' := ?_) #[false, true, false, false, false, false] rfl rfl (by kernel_rfl) (fun _ _ _ h => h) (Or.inl ⟨by rfl, ?_⟩) ?_ ?_
              rotate_left
              · intro w'
                go_simp
                with_reducible rfl
              rotate_left
              · simp only [Act.put, List.setIfInBounds_toArray, List.set_cons_zero, List.set_cons_succ, i64_w, i32_w]
                rfl
              refine take_ (i := 2) (N := some 15) (v := ?_) (a' := ?_) #[false, true, true, false, false, false] rfl rfl (by kernel_rfl) (fun _ _ _ h => h) (Or.inl ⟨by rfl, ?_⟩) hHeld ?_ ?_
              rotate_left
              · rintro w' ⟨s0, s1, s2, s3, s4, s5, s6, s7, s8, s9, s10, s11, s12, s13, s14, s15, s16⟩
                go_simp
                with_reducible rfl
              rotate_left
              · simp only [Act.put, List.setIfInBounds_toArray, List.set_cons_zero, List.set_cons_succ, i64_w, i32_w]
                rfl
              refine one_ (i := 0) (N := some 13) #[true, true, true, false, false, false] rfl rfl (by kernel_rfl) (by decide) (fun K hK => ?_)
              refine goes_ Tryd.func18 (by kernel_rfl) rfl #[] (by rfl) rfl rfl (by (try simp only [List.map_toArray, List.map_cons, List.map_nil]); first | done | rfl | (simp only [List.length_drop, List.length_take]; rfl)) ?_
              with_reducible refine (gharryref25_Words.calls  t469 _ A9.out).mono ?_
              rintro e w13 ⟨v470, rfl, ho0, hb⟩
              skip
              refine ⟨_, rfl, ?_⟩
              have n0_ := Aside0.mk (Kd.R_lower ho0 (below_size (by repeat (first | (with_reducible first | exact HB.out | apply below_alloc | apply pw_below_drewN | apply below_drew1 | refine below_set ?_ GE468.out) | exact HB.out))))
              have n1_ := Aside0.mk (blk_below (g := gb468) (o := .cells #[.int .i64 a0_0, .int .i64 a0_1, .int .i64 a0_2, .int .i64 a0_3, .string a0_4, .string a0_5, .bool a0_6, .bool a0_7, .int .i64 a0_8, .bool a0_9, .int .i64 a0_10, .slice A0_11 l0_11.length c0_11, .int .i64 a0_12, .int .i64 a0_13, .int .i64 a0_14, .int .i64 a0_15, .int .i64 a0_16] 50 (0, 0)) (by (with_reducible repeat (first | refine blk_drewN ?_ _ | refine blk_drew ?_ | refine blk_alloc ?_ _)); exact BK468.out) hb)
              have n2_ := Aside0.mk (below_step (by repeat (first | (with_reducible first | exact HB.out | apply below_alloc | apply pw_below_drewN | apply below_drew1 | refine below_set ?_ GE468.out) | exact HB.out)) hb)
              clear BK468
              clear HB
              have HO471 := n0_
              have BK468 := n1_
              have HB := n2_
              clear n0_ n1_ n2_
              (try clear hb)
              (try clear hb2)
              (try clear hk)
              (try clear hi)
              (try clear ho0)
              obtain ⟨Ao14, co14, eo14⟩ := Kd.R_slice HO471.out
              (first | subst eo14 | (injection eo14 with f1_ f2_ f3_; have f4_ := f1_.symm; have f5_ := f3_.symm; clear f1_ f2_ f3_; subst f4_; subst f5_))
              have p472 : 0 ≤ (a0_0 : Int) := of_decide_eq_true (by first | (with_reducible assumption) | assumption)
              have q472 : a0_0 < (t469.length : Int) := of_decide_eq_true (by first | (with_reducible assumption) | assumption)
              obtain ⟨ad472, e472, hx472_0⟩ := Kd.at_string (Kd.R_reads' HO471.out).2.2 a0_0 p472 q472
              cases e472
              replace p472 := eq_true p472
              replace q472 := eq_true q472
              refine hK.out _ _ ⟨(blk_cell BK468.out 0).trans rfl, (blk_cell BK468.out 1).trans rfl, (blk_cell BK468.out 2).trans rfl, (blk_cell BK468.out 3).trans rfl, (blk_cell BK468.out 4).trans rfl, (blk_cell BK468.out 5).trans rfl, (blk_cell BK468.out 6).trans rfl, (blk_cell BK468.out 7).trans rfl, (blk_cell BK468.out 8).trans rfl, (blk_cell BK468.out 9).trans rfl, (blk_cell BK468.out 10).trans rfl, (blk_cell BK468.out 11).trans rfl, (blk_cell BK468.out 12).trans rfl, (blk_cell BK468.out 13).trans rfl, (blk_cell BK468.out 14).trans rfl, (blk_cell BK468.out 15).trans rfl, (blk_cell BK468.out 16).trans rfl⟩ (fun hHeld => ?_)
              clear hK K
              refine norm_ (a' := ?_) ?_ ?_
              rotate_left
              · show Act.put _ (some 13) _ = _
                simp only [Act.put, List.setIfInBounds_toArray, List.set_cons_zero, List.set_cons_succ, i64_w, i32_w]
                rfl
              refine pure_ (i := 3) (N := some 16) (v := ?_) (a' := ?_) #[true, true, true, true, false, false] rfl rfl (by kernel_rfl) (fun _ _ _ h => h) (Or.inl ⟨by rfl, ?_⟩) ?_ ?_
              rotate_left
              · intro w'
                go_simp
                with_reducible rfl
              rotate_left
              · simp only [Act.put, List.setIfInBounds_toArray, List.set_cons_zero, List.set_cons_succ, i64_w, i32_w]
                rfl
              refine one_ (i := 4) (N := some 17) #[true, true, true, true, true, false] rfl rfl (by kernel_rfl) (by decide) (fun K hK => ?_)
              refine value_ (N := some 17) (v := .string (rdOf ByteArray.empty t469 a0_0)) (w1 := w13) (by rfl) rfl ?_ ?_
              · go_simp
                try with_reducible rfl
              refine hK.out _ _ ⟨(blk_cell BK468.out 0).trans rfl, (blk_cell BK468.out 1).trans rfl, (blk_cell BK468.out 2).trans rfl, (blk_cell BK468.out 3).trans rfl, (blk_cell BK468.out 4).trans rfl, (blk_cell BK468.out 5).trans rfl, (blk_cell BK468.out 6).trans rfl, (blk_cell BK468.out 7).trans rfl, (blk_cell BK468.out 8).trans rfl, (blk_cell BK468.out 9).trans rfl, (blk_cell BK468.out 10).trans rfl, (blk_cell BK468.out 11).trans rfl, (blk_cell BK468.out 12).trans rfl, (blk_cell BK468.out 13).trans rfl, (blk_cell BK468.out 14).trans rfl, (blk_cell BK468.out 15).trans rfl, (blk_cell BK468.out 16).trans rfl⟩ (fun hHeld => ?_)
              clear hK K
              refine norm_ (a' := ?_) ?_ ?_
              rotate_left
              · show Act.put _ (some 17) _ = _
                simp only [Act.put, List.setIfInBounds_toArray, List.set_cons_zero, List.set_cons_succ, i64_w, i32_w]
                rfl
              refine pure_ (i := 5) (N := some 3) (v := ?_) (a' := ?_) #[true, true, true, true, true, true] rfl rfl (by kernel_rfl) (fun _ _ _ h => h) (Or.inl ⟨by rfl, ?_⟩) ?_ ?_
              rotate_left
              · intro w'
                go_simp
                with_reducible rfl
              rotate_left
              · simp only [Act.put, List.setIfInBounds_toArray, List.set_cons_zero, List.set_cons_succ, i64_w, i32_w]
                rfl
              refine done_ (by kernel_rfl) ?_
              try go_wp2
              go_meet
              case rel => exact ⟨_, (rdOf ByteArray.empty t469 a0_0), (by first | rfl | (simp; done) | (simp [*]; done)), H', ⟨by have := HJ1.out; first | omega | exact Nat.le_refl _⟩, ⟨by (with_reducible repeat (first | refine blk_drewN ?_ _ | refine blk_drew ?_ | refine blk_alloc ?_ _)); exact BK468.out⟩, ⟨by repeat (first | (with_reducible first | exact HB.out | apply below_alloc | apply pw_below_drewN | apply below_drew1 | refine below_set ?_ GE468.out) | exact HB.out)⟩⟩
            · rw [if_neg c11] at H
              exact absurd H (by simp)
          · rw [if_neg c10] at H
            exact absurd H (by simp)
        · replace c8 := Bool.eq_false_iff.mpr c8
          subst c8
          have H1 : (gharrylaw25_event.j1 kj1 (⟨#[110, 111, 110, 101]⟩ : ByteArray) a0_0 a0_1 a0_2 a0_3 a0_4 a0_5 a0_6 a0_7 a0_8 a0_9 a0_10 l0_11 a0_12 a0_13 a0_14 a0_15 a0_16) = some r := by rw [if_neg (show ¬ (false = true) by decide)] at H; exact H
          clear H
          have H := H1
          clear H1
          have H' := Aside0.mk H
          clear H
          go_wp2
          go_meet
          case rel => exact ⟨_, ((⟨#[110, 111, 110, 101]⟩ : ByteArray)), (by first | rfl | (simp; done) | (simp [*]; done)), H', ⟨by have := HJ1.out; first | omega | exact Nat.le_refl _⟩, ⟨by (with_reducible repeat (first | refine blk_drewN ?_ _ | refine blk_drew ?_ | refine blk_alloc ?_ _)); exact BK468.out⟩, ⟨by repeat (first | (with_reducible first | exact HB.out | apply below_alloc | apply pw_below_drewN | apply below_drew1 | refine below_set ?_ GE468.out) | exact HB.out)⟩⟩
      case rest =>
        clear HC7
        try clear c1
        try clear c2
        try clear p2
        try clear c4
        try clear c4b0
        try clear p4
        try clear q4
        try clear hx4
        try clear c8
        try clear c10
        try clear c10b0
        try clear c11
        try clear c11b0
        try clear hcz5_0
        try clear hcz5_1
        try clear hcz5_10
        try clear hcz5_11
        try clear hcz5_12
        try clear hcz5_13
        try clear hcz5_14
        try clear hcz5_15
        try clear hcz5_16
        try clear hcz5_2
        try clear hcz5_3
        try clear hcz5_4
        try clear hcz5_5
        try clear hcz5_6
        try clear hcz5_7
        try clear hcz5_8
        try clear hcz5_9
        try clear hcz6_0
        try clear hcz6_1
        try clear hcz6_10
        try clear hcz6_11
        try clear hcz6_12
        try clear hcz6_13
        try clear hcz6_14
        try clear hcz6_15
        try clear hcz6_16
        try clear hcz6_2
        try clear hcz6_3
        try clear hcz6_4
        try clear hcz6_5
        try clear hcz6_6
        try clear hcz6_7
        try clear hcz6_8
        try clear hcz6_9
        try clear hfz5_0
        try clear hfz5_1
        try clear hfz5_10
        try clear hfz5_11
        try clear hfz5_12
        try clear hfz5_13
        try clear hfz5_14
        try clear hfz5_15
        try clear hfz5_16
        try clear hfz5_2
        try clear hfz5_3
        try clear hfz5_4
        try clear hfz5_5
        try clear hfz5_6
        try clear hfz5_7
        try clear hfz5_8
        try clear hfz5_9
        try clear hfz6_0
        try clear hfz6_1
        try clear hfz6_10
        try clear hfz6_11
        try clear hfz6_12
        try clear hfz6_13
        try clear hfz6_14
        try clear hfz6_15
        try clear hfz6_16
        try clear hfz6_2
        try clear hfz6_3
        try clear hfz6_4
        try clear hfz6_5
        try clear hfz6_6
        try clear hfz6_7
        try clear hfz6_8
        try clear hfz6_9
        try clear hx472_0
        try clear p2
        try clear p472
        try clear q472
        obtain ⟨kq, x3_6, rfl, HA, HJ6, BK468, HB⟩ := hcut
        cases kq with
        | zero => exact absurd HA.out (by simp [gharrylaw25_event.j1])
        | succ kj6 =>
          have H := HA.out
          clear HA
          simp only [gharrylaw25_event.j1] at H
          by_cases c15 : x3_6.size + 1 ≤ 9223372036854775807
          · rw [if_pos c15] at H
            have c15b0 := eq_true c15
            have c15b1 : decide (x3_6.size + 1 ≤ 9223372036854775807) = true := decide_eq_true c15
            try have c15b2 : (9223372036854775807 < x3_6.size + 1) = False := eq_false (Nat.not_lt.2 c15)
            replace H := Option.bind_eq_some_iff.mp H
            obtain ⟨t473, A160, H⟩ := H
            replace H : (if (x3_6 ++ (⟨#[32]⟩ : ByteArray)).size + t473.size ≤ 9223372036854775807 then (if a0_7 = true then (if a0_8 = 0 then (if ((x3_6 ++ (⟨#[32]⟩ : ByteArray)) ++ t473).size + 3 ≤ 9223372036854775807 then (gharrylaw25_event.j2 kj6 (((x3_6 ++ (⟨#[32]⟩ : ByteArray)) ++ t473) ++ (⟨#[32, 111, 107]⟩ : ByteArray)) a0_0 a0_1 a0_2 a0_3 a0_4 a0_5 a0_6 a0_7 a0_8 a0_9 a0_10 l0_11 a0_12 a0_13 a0_14 a0_15 a0_16) else (none)) else (if ((x3_6 ++ (⟨#[32]⟩ : ByteArray)) ++ t473).size + 7 ≤ 9223372036854775807 then ((gharrylaw25_low.f a0_8).bind fun t474 => (if (((x3_6 ++ (⟨#[32]⟩ : ByteArray)) ++ t473) ++ (⟨#[32, 101, 114, 114, 111, 114, 32]⟩ : ByteArray)).size + t474.size ≤ 9223372036854775807 then (gharrylaw25_event.j2 kj6 ((((x3_6 ++ (⟨#[32]⟩ : ByteArray)) ++ t473) ++ (⟨#[32, 101, 114, 114, 111, 114, 32]⟩ : ByteArray)) ++ t474) a0_0 a0_1 a0_2 a0_3 a0_4 a0_5 a0_6 a0_7 a0_8 a0_9 a0_10 l0_11 a0_12 a0_13 a0_14 a0_15 a0_16) else (none))) else (none))) else (if ((x3_6 ++ (⟨#[32]⟩ : ByteArray)) ++ t473).size + 6 ≤ 9223372036854775807 then (gharrylaw25_event.j2 kj6 (((x3_6 ++ (⟨#[32]⟩ : ByteArray)) ++ t473) ++ (⟨#[32, 119, 97, 105, 116, 115]⟩ : ByteArray)) a0_0 a0_1 a0_2 a0_3 a0_4 a0_5 a0_6 a0_7 a0_8 a0_9 a0_10 l0_11 a0_12 a0_13 a0_14 a0_15 a0_16) else (none))) else (none)) = some r := H
            have A16 := Aside0.mk A160
            clear A160
            by_cases c17 : (x3_6 ++ (⟨#[32]⟩ : ByteArray)).size + t473.size ≤ 9223372036854775807
            · rw [if_pos c17] at H
              have c17b0 := eq_true c17
              have c17b1 : decide ((x3_6 ++ (⟨#[32]⟩ : ByteArray)).size + t473.size ≤ 9223372036854775807) = true := decide_eq_true c17
              try have c17b2 : (9223372036854775807 < (x3_6 ++ (⟨#[32]⟩ : ByteArray)).size + t473.size) = False := eq_false (Nat.not_lt.2 c17)
              try have c17b8 : (9223372036854775807 < x3_6.size + 1 + t473.size) = False := eq_false (Nat.not_lt.2 (by have h_ := c17; simp only [ByteArray.size_append] at h_; exact h_))
              have HC18 := Aside0.mk H
              clear H
              have hcz19_0 : wc.cell? ⟨gb468, 0, none⟩ = some (.int .i64 a0_0) := (blk_cell BK468.out 0).trans rfl
              have hcz19_1 : wc.cell? ⟨gb468, 1, none⟩ = some (.int .i64 a0_1) := (blk_cell BK468.out 1).trans rfl
              have hcz19_2 : wc.cell? ⟨gb468, 2, none⟩ = some (.int .i64 a0_2) := (blk_cell BK468.out 2).trans rfl
              have hcz19_3 : wc.cell? ⟨gb468, 3, none⟩ = some (.int .i64 a0_3) := (blk_cell BK468.out 3).trans rfl
              have hcz19_4 : wc.cell? ⟨gb468, 4, none⟩ = some (.string a0_4) := (blk_cell BK468.out 4).trans rfl
              have hcz19_5 : wc.cell? ⟨gb468, 5, none⟩ = some (.string a0_5) := (blk_cell BK468.out 5).trans rfl
              have hcz19_6 : wc.cell? ⟨gb468, 6, none⟩ = some (.bool a0_6) := (blk_cell BK468.out 6).trans rfl
              have hcz19_7 : wc.cell? ⟨gb468, 7, none⟩ = some (.bool a0_7) := (blk_cell BK468.out 7).trans rfl
              have hcz19_8 : wc.cell? ⟨gb468, 8, none⟩ = some (.int .i64 a0_8) := (blk_cell BK468.out 8).trans rfl
              have hcz19_9 : wc.cell? ⟨gb468, 9, none⟩ = some (.bool a0_9) := (blk_cell BK468.out 9).trans rfl
              have hcz19_10 : wc.cell? ⟨gb468, 10, none⟩ = some (.int .i64 a0_10) := (blk_cell BK468.out 10).trans rfl
              have hcz19_11 : wc.cell? ⟨gb468, 11, none⟩ = some (.slice A0_11 l0_11.length c0_11) := (blk_cell BK468.out 11).trans rfl
              have hcz19_12 : wc.cell? ⟨gb468, 12, none⟩ = some (.int .i64 a0_12) := (blk_cell BK468.out 12).trans rfl
              have hcz19_13 : wc.cell? ⟨gb468, 13, none⟩ = some (.int .i64 a0_13) := (blk_cell BK468.out 13).trans rfl
              have hcz19_14 : wc.cell? ⟨gb468, 14, none⟩ = some (.int .i64 a0_14) := (blk_cell BK468.out 14).trans rfl
              have hcz19_15 : wc.cell? ⟨gb468, 15, none⟩ = some (.int .i64 a0_15) := (blk_cell BK468.out 15).trans rfl
              have hcz19_16 : wc.cell? ⟨gb468, 16, none⟩ = some (.int .i64 a0_16) := (blk_cell BK468.out 16).trans rfl
              have hfz19_0 := blk_frozen BK468.out 0
              have hfz19_1 := blk_frozen BK468.out 1
              have hfz19_2 := blk_frozen BK468.out 2
              have hfz19_3 := blk_frozen BK468.out 3
              have hfz19_4 := blk_frozen BK468.out 4
              have hfz19_5 := blk_frozen BK468.out 5
              have hfz19_6 := blk_frozen BK468.out 6
              have hfz19_7 := blk_frozen BK468.out 7
              have hfz19_8 := blk_frozen BK468.out 8
              have hfz19_9 := blk_frozen BK468.out 9
              have hfz19_10 := blk_frozen BK468.out 10
              have hfz19_11 := blk_frozen BK468.out 11
              have hfz19_12 := blk_frozen BK468.out 12
              have hfz19_13 := blk_frozen BK468.out 13
              have hfz19_14 := blk_frozen BK468.out 14
              have hfz19_15 := blk_frozen BK468.out 15
              have hfz19_16 := blk_frozen BK468.out 16
              go_upto_if 26 with (first | ((with_reducible refine gate_callee (f := 49) rfl ?_); refine goesL_ (some 22) rfl rfl Tryd.func49 (by kernel_rfl) rfl #[.int .i64 a0_2] rfl (by (try simp only [List.map_toArray, List.map_cons, List.map_nil]); first | done | rfl | (simp only [List.length_drop, List.length_take]; rfl)) ?_; (with_reducible refine (gharrylaw25_low.calls a0_2 t473 _ A16.out).mono ?_); rintro e w20 ⟨rfl, hb⟩; refine ⟨_, rfl, ?_⟩; have n0_ := Aside0.mk (blk_below (g := gb468) (o := .cells #[.int .i64 a0_0, .int .i64 a0_1, .int .i64 a0_2, .int .i64 a0_3, .string a0_4, .string a0_5, .bool a0_6, .bool a0_7, .int .i64 a0_8, .bool a0_9, .int .i64 a0_10, .slice A0_11 l0_11.length c0_11, .int .i64 a0_12, .int .i64 a0_13, .int .i64 a0_14, .int .i64 a0_15, .int .i64 a0_16] 50 (0, 0)) (by (with_reducible repeat (first | refine blk_drewN ?_ _ | refine blk_drew ?_ | refine blk_alloc ?_ _)); exact BK468.out) hb); have n1_ := Aside0.mk (below_step (by repeat (first | (with_reducible first | exact HB.out | apply below_alloc | apply pw_below_drewN | apply below_drew1 | refine below_set ?_ GE468.out) | exact HB.out)) hb); clear BK468; clear HB; have BK468 := n0_; have HB := n1_; clear n0_ n1_; (try clear hb); (try clear hb2); (try clear hk); (try clear hi); have hcz21_0 : w20.cell? ⟨gb468, 0, none⟩ = some (.int .i64 a0_0) := (blk_cell BK468.out 0).trans rfl; have hcz21_1 : w20.cell? ⟨gb468, 1, none⟩ = some (.int .i64 a0_1) := (blk_cell BK468.out 1).trans rfl; have hcz21_2 : w20.cell? ⟨gb468, 2, none⟩ = some (.int .i64 a0_2) := (blk_cell BK468.out 2).trans rfl; have hcz21_3 : w20.cell? ⟨gb468, 3, none⟩ = some (.int .i64 a0_3) := (blk_cell BK468.out 3).trans rfl; have hcz21_4 : w20.cell? ⟨gb468, 4, none⟩ = some (.string a0_4) := (blk_cell BK468.out 4).trans rfl; have hcz21_5 : w20.cell? ⟨gb468, 5, none⟩ = some (.string a0_5) := (blk_cell BK468.out 5).trans rfl; have hcz21_6 : w20.cell? ⟨gb468, 6, none⟩ = some (.bool a0_6) := (blk_cell BK468.out 6).trans rfl; have hcz21_7 : w20.cell? ⟨gb468, 7, none⟩ = some (.bool a0_7) := (blk_cell BK468.out 7).trans rfl; have hcz21_8 : w20.cell? ⟨gb468, 8, none⟩ = some (.int .i64 a0_8) := (blk_cell BK468.out 8).trans rfl; have hcz21_9 : w20.cell? ⟨gb468, 9, none⟩ = some (.bool a0_9) := (blk_cell BK468.out 9).trans rfl; have hcz21_10 : w20.cell? ⟨gb468, 10, none⟩ = some (.int .i64 a0_10) := (blk_cell BK468.out 10).trans rfl; have hcz21_11 : w20.cell? ⟨gb468, 11, none⟩ = some (.slice A0_11 l0_11.length c0_11) := (blk_cell BK468.out 11).trans rfl; have hcz21_12 : w20.cell? ⟨gb468, 12, none⟩ = some (.int .i64 a0_12) := (blk_cell BK468.out 12).trans rfl; have hcz21_13 : w20.cell? ⟨gb468, 13, none⟩ = some (.int .i64 a0_13) := (blk_cell BK468.out 13).trans rfl; have hcz21_14 : w20.cell? ⟨gb468, 14, none⟩ = some (.int .i64 a0_14) := (blk_cell BK468.out 14).trans rfl; have hcz21_15 : w20.cell? ⟨gb468, 15, none⟩ = some (.int .i64 a0_15) := (blk_cell BK468.out 15).trans rfl; have hcz21_16 : w20.cell? ⟨gb468, 16, none⟩ = some (.int .i64 a0_16) := (blk_cell BK468.out 16).trans rfl; have hfz21_0 := blk_frozen BK468.out 0; have hfz21_1 := blk_frozen BK468.out 1; have hfz21_2 := blk_frozen BK468.out 2; have hfz21_3 := blk_frozen BK468.out 3; have hfz21_4 := blk_frozen BK468.out 4; have hfz21_5 := blk_frozen BK468.out 5; have hfz21_6 := blk_frozen BK468.out 6; have hfz21_7 := blk_frozen BK468.out 7; have hfz21_8 := blk_frozen BK468.out 8; have hfz21_9 := blk_frozen BK468.out 9; have hfz21_10 := blk_frozen BK468.out 10; have hfz21_11 := blk_frozen BK468.out 11; have hfz21_12 := blk_frozen BK468.out 12; have hfz21_13 := blk_frozen BK468.out 13; have hfz21_14 := blk_frozen BK468.out 14; have hfz21_15 := blk_frozen BK468.out 15; have hfz21_16 := blk_frozen BK468.out 16))
              (try simp only [Act.put, List.setIfInBounds_toArray, List.set_cons_zero, List.set_cons_succ])
              go_cut [3] (fun v3 wc => ∃ (kq : Nat) (x3_17 : ByteArray), v3 = .string x3_17 ∧ Aside0 (gharrylaw25_event.j2 kq x3_17 a0_0 a0_1 a0_2 a0_3 a0_4 a0_5 a0_6 a0_7 a0_8 a0_9 a0_10 l0_11 a0_12 a0_13 a0_14 a0_15 a0_16 = some r) ∧ Aside0 (kq ≤ kj6) ∧ Aside0 (wc.heap[gb468]? = some (.cells #[.int .i64 a0_0, .int .i64 a0_1, .int .i64 a0_2, .int .i64 a0_3, .string a0_4, .string a0_5, .bool a0_6, .bool a0_7, .int .i64 a0_8, .bool a0_9, .int .i64 a0_10, (.slice A0_11 l0_11.length c0_11), .int .i64 a0_12, .int .i64 a0_13, .int .i64 a0_14, .int .i64 a0_15, .int .i64 a0_16] 50 (0, 0))) ∧ Aside0 (Below w.heap.size w wc))
              case first =>
                have H := HC18.out
                clear HC18
                by_cases c22 : a0_7 = true
                · subst c22
                  have H1 : (if a0_8 = 0 then (if ((x3_6 ++ (⟨#[32]⟩ : ByteArray)) ++ t473).size + 3 ≤ 9223372036854775807 then (gharrylaw25_event.j2 kj6 (((x3_6 ++ (⟨#[32]⟩ : ByteArray)) ++ t473) ++ (⟨#[32, 111, 107]⟩ : ByteArray)) a0_0 a0_1 a0_2 a0_3 a0_4 a0_5 a0_6 true a0_8 a0_9 a0_10 l0_11 a0_12 a0_13 a0_14 a0_15 a0_16) else (none)) else (if ((x3_6 ++ (⟨#[32]⟩ : ByteArray)) ++ t473).size + 7 ≤ 9223372036854775807 then ((gharrylaw25_low.f a0_8).bind fun t474 => (if (((x3_6 ++ (⟨#[32]⟩ : ByteArray)) ++ t473) ++ (⟨#[32, 101, 114, 114, 111, 114, 32]⟩ : ByteArray)).size + t474.size ≤ 9223372036854775807 then (gharrylaw25_event.j2 kj6 ((((x3_6 ++ (⟨#[32]⟩ : ByteArray)) ++ t473) ++ (⟨#[32, 101, 114, 114, 111, 114, 32]⟩ : ByteArray)) ++ t474) a0_0 a0_1 a0_2 a0_3 a0_4 a0_5 a0_6 true a0_8 a0_9 a0_10 l0_11 a0_12 a0_13 a0_14 a0_15 a0_16) else (none))) else (none))) = some r := by rw [if_pos rfl] at H; exact H
                  clear H
                  have H := H1
                  clear H1
                  by_cases c23 : a0_8 = 0
                  · rw [if_pos c23] at H
                    have c23b0 : (a0_8 == 0) = true := beq_iff_eq.mpr c23
                    have c23b1 : (a0_8 != 0) = false := bne_eq_false_iff_eq.mpr c23
                    clear c23
                    (first | rw [c23b0] | (simp only [i64_w, i32_w]; rw [c23b0]) | skip)
                    by_cases c24 : ((x3_6 ++ (⟨#[32]⟩ : ByteArray)) ++ t473).size + 3 ≤ 9223372036854775807
                    · rw [if_pos c24] at H
                      have c24b0 := eq_true c24
                      have c24b1 : decide (((x3_6 ++ (⟨#[32]⟩ : ByteArray)) ++ t473).size + 3 ≤ 9223372036854775807) = true := decide_eq_true c24
                      try have c24b2 : (9223372036854775807 < ((x3_6 ++ (⟨#[32]⟩ : ByteArray)) ++ t473).size + 3) = False := eq_false (Nat.not_lt.2 c24)
                      try have c24b8 : (9223372036854775807 < x3_6.size + 1 + t473.size + 3) = False := eq_false (Nat.not_lt.2 (by have h_ := c24; simp only [ByteArray.size_append] at h_; exact h_))
                      have H' := Aside0.mk H
                      clear H
                      have hcz25_0 : w20.cell? ⟨gb468, 0, none⟩ = some (.int .i64 a0_0) := (blk_cell BK468.out 0).trans rfl
                      have hcz25_1 : w20.cell? ⟨gb468, 1, none⟩ = some (.int .i64 a0_1) := (blk_cell BK468.out 1).trans rfl
                      have hcz25_2 : w20.cell? ⟨gb468, 2, none⟩ = some (.int .i64 a0_2) := (blk_cell BK468.out 2).trans rfl
                      have hcz25_3 : w20.cell? ⟨gb468, 3, none⟩ = some (.int .i64 a0_3) := (blk_cell BK468.out 3).trans rfl
                      have hcz25_4 : w20.cell? ⟨gb468, 4, none⟩ = some (.string a0_4) := (blk_cell BK468.out 4).trans rfl
                      have hcz25_5 : w20.cell? ⟨gb468, 5, none⟩ = some (.string a0_5) := (blk_cell BK468.out 5).trans rfl
                      have hcz25_6 : w20.cell? ⟨gb468, 6, none⟩ = some (.bool a0_6) := (blk_cell BK468.out 6).trans rfl
                      have hcz25_7 : w20.cell? ⟨gb468, 7, none⟩ = some (.bool true) := (blk_cell BK468.out 7).trans rfl
                      have hcz25_8 : w20.cell? ⟨gb468, 8, none⟩ = some (.int .i64 a0_8) := (blk_cell BK468.out 8).trans rfl
                      have hcz25_9 : w20.cell? ⟨gb468, 9, none⟩ = some (.bool a0_9) := (blk_cell BK468.out 9).trans rfl
                      have hcz25_10 : w20.cell? ⟨gb468, 10, none⟩ = some (.int .i64 a0_10) := (blk_cell BK468.out 10).trans rfl
                      have hcz25_11 : w20.cell? ⟨gb468, 11, none⟩ = some (.slice A0_11 l0_11.length c0_11) := (blk_cell BK468.out 11).trans rfl
                      have hcz25_12 : w20.cell? ⟨gb468, 12, none⟩ = some (.int .i64 a0_12) := (blk_cell BK468.out 12).trans rfl
                      have hcz25_13 : w20.cell? ⟨gb468, 13, none⟩ = some (.int .i64 a0_13) := (blk_cell BK468.out 13).trans rfl
                      have hcz25_14 : w20.cell? ⟨gb468, 14, none⟩ = some (.int .i64 a0_14) := (blk_cell BK468.out 14).trans rfl
                      have hcz25_15 : w20.cell? ⟨gb468, 15, none⟩ = some (.int .i64 a0_15) := (blk_cell BK468.out 15).trans rfl
                      have hcz25_16 : w20.cell? ⟨gb468, 16, none⟩ = some (.int .i64 a0_16) := (blk_cell BK468.out 16).trans rfl
                      have hfz25_0 := blk_frozen BK468.out 0
                      have hfz25_1 := blk_frozen BK468.out 1
                      have hfz25_2 := blk_frozen BK468.out 2
                      have hfz25_3 := blk_frozen BK468.out 3
                      have hfz25_4 := blk_frozen BK468.out 4
                      have hfz25_5 := blk_frozen BK468.out 5
                      have hfz25_6 := blk_frozen BK468.out 6
                      have hfz25_7 := blk_frozen BK468.out 7
                      have hfz25_8 := blk_frozen BK468.out 8
                      have hfz25_9 := blk_frozen BK468.out 9
                      have hfz25_10 := blk_frozen BK468.out 10
                      have hfz25_11 := blk_frozen BK468.out 11
                      have hfz25_12 := blk_frozen BK468.out 12
                      have hfz25_13 := blk_frozen BK468.out 13
                      have hfz25_14 := blk_frozen BK468.out 14
                      have hfz25_15 := blk_frozen BK468.out 15
                      have hfz25_16 := blk_frozen BK468.out 16
                      go_wp2
                      go_meet
                      case rel => exact ⟨_, (((x3_6 ++ (⟨#[32]⟩ : ByteArray)) ++ t473) ++ (⟨#[32, 111, 107]⟩ : ByteArray)), (by first | rfl | (simp; done) | (simp [*]; done)), H', ⟨by have := HJ1.out; have := HJ6.out; first | omega | exact Nat.le_refl _⟩, ⟨by (with_reducible repeat (first | refine blk_drewN ?_ _ | refine blk_drew ?_ | refine blk_alloc ?_ _)); exact BK468.out⟩, ⟨by repeat (first | (with_reducible first | exact HB.out | apply below_alloc | apply pw_below_drewN | apply below_drew1 | refine below_set ?_ GE468.out) | exact HB.out)⟩⟩
                    · rw [if_neg c24] at H
                      exact absurd H (by simp)
                  · rw [if_neg c23] at H
                    have c23b0 : (a0_8 == 0) = false := beq_eq_false_iff_ne.mpr c23
                    have c23b1 : (a0_8 != 0) = true := bne_iff_ne.mpr c23
                    (first | rw [c23b0] | (simp only [i64_w, i32_w]; rw [c23b0]) | skip)
                    by_cases c26 : ((x3_6 ++ (⟨#[32]⟩ : ByteArray)) ++ t473).size + 7 ≤ 9223372036854775807
                    · rw [if_pos c26] at H
                      have c26b0 := eq_true c26
                      have c26b1 : decide (((x3_6 ++ (⟨#[32]⟩ : ByteArray)) ++ t473).size + 7 ≤ 9223372036854775807) = true := decide_eq_true c26
                      try have c26b2 : (9223372036854775807 < ((x3_6 ++ (⟨#[32]⟩ : ByteArray)) ++ t473).size + 7) = False := eq_false (Nat.not_lt.2 c26)
                      try have c26b8 : (9223372036854775807 < x3_6.size + 1 + t473.size + 7) = False := eq_false (Nat.not_lt.2 (by have h_ := c26; simp only [ByteArray.size_append] at h_; exact h_))
                      replace H := Option.bind_eq_some_iff.mp H
                      obtain ⟨t474, A270, H⟩ := H
                      replace H : (if (((x3_6 ++ (⟨#[32]⟩ : ByteArray)) ++ t473) ++ (⟨#[32, 101, 114, 114, 111, 114, 32]⟩ : ByteArray)).size + t474.size ≤ 9223372036854775807 then (gharrylaw25_event.j2 kj6 ((((x3_6 ++ (⟨#[32]⟩ : ByteArray)) ++ t473) ++ (⟨#[32, 101, 114, 114, 111, 114, 32]⟩ : ByteArray)) ++ t474) a0_0 a0_1 a0_2 a0_3 a0_4 a0_5 a0_6 true a0_8 a0_9 a0_10 l0_11 a0_12 a0_13 a0_14 a0_15 a0_16) else (none)) = some r := H
                      have A27 := Aside0.mk A270
                      clear A270
                      by_cases c28 : (((x3_6 ++ (⟨#[32]⟩ : ByteArray)) ++ t473) ++ (⟨#[32, 101, 114, 114, 111, 114, 32]⟩ : ByteArray)).size + t474.size ≤ 9223372036854775807
                      · rw [if_pos c28] at H
                        have c28b0 := eq_true c28
                        have c28b1 : decide ((((x3_6 ++ (⟨#[32]⟩ : ByteArray)) ++ t473) ++ (⟨#[32, 101, 114, 114, 111, 114, 32]⟩ : ByteArray)).size + t474.size ≤ 9223372036854775807) = true := decide_eq_true c28
                        try have c28b2 : (9223372036854775807 < (((x3_6 ++ (⟨#[32]⟩ : ByteArray)) ++ t473) ++ (⟨#[32, 101, 114, 114, 111, 114, 32]⟩ : ByteArray)).size + t474.size) = False := eq_false (Nat.not_lt.2 c28)
                        try have c28b8 : (9223372036854775807 < x3_6.size + 1 + t473.size + 7 + t474.size) = False := eq_false (Nat.not_lt.2 (by have h_ := c28; simp only [ByteArray.size_append] at h_; exact h_))
                        have H' := Aside0.mk H
                        clear H
                        have hcz29_0 : w20.cell? ⟨gb468, 0, none⟩ = some (.int .i64 a0_0) := (blk_cell BK468.out 0).trans rfl
                        have hcz29_1 : w20.cell? ⟨gb468, 1, none⟩ = some (.int .i64 a0_1) := (blk_cell BK468.out 1).trans rfl
                        have hcz29_2 : w20.cell? ⟨gb468, 2, none⟩ = some (.int .i64 a0_2) := (blk_cell BK468.out 2).trans rfl
                        have hcz29_3 : w20.cell? ⟨gb468, 3, none⟩ = some (.int .i64 a0_3) := (blk_cell BK468.out 3).trans rfl
                        have hcz29_4 : w20.cell? ⟨gb468, 4, none⟩ = some (.string a0_4) := (blk_cell BK468.out 4).trans rfl
                        have hcz29_5 : w20.cell? ⟨gb468, 5, none⟩ = some (.string a0_5) := (blk_cell BK468.out 5).trans rfl
                        have hcz29_6 : w20.cell? ⟨gb468, 6, none⟩ = some (.bool a0_6) := (blk_cell BK468.out 6).trans rfl
                        have hcz29_7 : w20.cell? ⟨gb468, 7, none⟩ = some (.bool true) := (blk_cell BK468.out 7).trans rfl
                        have hcz29_8 : w20.cell? ⟨gb468, 8, none⟩ = some (.int .i64 a0_8) := (blk_cell BK468.out 8).trans rfl
                        have hcz29_9 : w20.cell? ⟨gb468, 9, none⟩ = some (.bool a0_9) := (blk_cell BK468.out 9).trans rfl
                        have hcz29_10 : w20.cell? ⟨gb468, 10, none⟩ = some (.int .i64 a0_10) := (blk_cell BK468.out 10).trans rfl
                        have hcz29_11 : w20.cell? ⟨gb468, 11, none⟩ = some (.slice A0_11 l0_11.length c0_11) := (blk_cell BK468.out 11).trans rfl
                        have hcz29_12 : w20.cell? ⟨gb468, 12, none⟩ = some (.int .i64 a0_12) := (blk_cell BK468.out 12).trans rfl
                        have hcz29_13 : w20.cell? ⟨gb468, 13, none⟩ = some (.int .i64 a0_13) := (blk_cell BK468.out 13).trans rfl
                        have hcz29_14 : w20.cell? ⟨gb468, 14, none⟩ = some (.int .i64 a0_14) := (blk_cell BK468.out 14).trans rfl
                        have hcz29_15 : w20.cell? ⟨gb468, 15, none⟩ = some (.int .i64 a0_15) := (blk_cell BK468.out 15).trans rfl
                        have hcz29_16 : w20.cell? ⟨gb468, 16, none⟩ = some (.int .i64 a0_16) := (blk_cell BK468.out 16).trans rfl
                        have hfz29_0 := blk_frozen BK468.out 0
                        have hfz29_1 := blk_frozen BK468.out 1
                        have hfz29_2 := blk_frozen BK468.out 2
                        have hfz29_3 := blk_frozen BK468.out 3
                        have hfz29_4 := blk_frozen BK468.out 4
                        have hfz29_5 := blk_frozen BK468.out 5
                        have hfz29_6 := blk_frozen BK468.out 6
                        have hfz29_7 := blk_frozen BK468.out 7
                        have hfz29_8 := blk_frozen BK468.out 8
                        have hfz29_9 := blk_frozen BK468.out 9
                        have hfz29_10 := blk_frozen BK468.out 10
                        have hfz29_11 := blk_frozen BK468.out 11
                        have hfz29_12 := blk_frozen BK468.out 12
                        have hfz29_13 := blk_frozen BK468.out 13
                        have hfz29_14 := blk_frozen BK468.out 14
                        have hfz29_15 := blk_frozen BK468.out 15
                        have hfz29_16 := blk_frozen BK468.out 16
                        go_wp2_with (first | ((with_reducible refine gate_callee (f := 49) rfl ?_); refine goesL_ (some 36) rfl rfl Tryd.func49 (by kernel_rfl) rfl #[.int .i64 a0_8] rfl (by (try simp only [List.map_toArray, List.map_cons, List.map_nil]); first | done | rfl | (simp only [List.length_drop, List.length_take]; rfl)) ?_; (with_reducible refine (gharrylaw25_low.calls a0_8 t474 _ A27.out).mono ?_); rintro e w30 ⟨rfl, hb⟩; refine ⟨_, rfl, ?_⟩; have n0_ := Aside0.mk (blk_below (g := gb468) (o := .cells #[.int .i64 a0_0, .int .i64 a0_1, .int .i64 a0_2, .int .i64 a0_3, .string a0_4, .string a0_5, .bool a0_6, .bool true, .int .i64 a0_8, .bool a0_9, .int .i64 a0_10, .slice A0_11 l0_11.length c0_11, .int .i64 a0_12, .int .i64 a0_13, .int .i64 a0_14, .int .i64 a0_15, .int .i64 a0_16] 50 (0, 0)) (by (with_reducible repeat (first | refine blk_drewN ?_ _ | refine blk_drew ?_ | refine blk_alloc ?_ _)); exact BK468.out) hb); have n1_ := Aside0.mk (below_step (by repeat (first | (with_reducible first | exact HB.out | apply below_alloc | apply pw_below_drewN | apply below_drew1 | refine below_set ?_ GE468.out) | exact HB.out)) hb); clear BK468; clear HB; have BK468 := n0_; have HB := n1_; clear n0_ n1_; (try clear hb); (try clear hb2); (try clear hk); (try clear hi)))
                        go_meet
                        case rel => exact ⟨_, ((((x3_6 ++ (⟨#[32]⟩ : ByteArray)) ++ t473) ++ (⟨#[32, 101, 114, 114, 111, 114, 32]⟩ : ByteArray)) ++ t474), (by first | rfl | (simp; done) | (simp [*]; done)), H', ⟨by have := HJ1.out; have := HJ6.out; first | omega | exact Nat.le_refl _⟩, ⟨by (with_reducible repeat (first | refine blk_drewN ?_ _ | refine blk_drew ?_ | refine blk_alloc ?_ _)); exact BK468.out⟩, ⟨by repeat (first | (with_reducible first | exact HB.out | apply below_alloc | apply pw_below_drewN | apply below_drew1 | refine below_set ?_ GE468.out) | exact HB.out)⟩⟩
                      · rw [if_neg c28] at H
                        exact absurd H (by simp)
                    · rw [if_neg c26] at H
                      exact absurd H (by simp)
                · replace c22 := Bool.eq_false_iff.mpr c22
                  subst c22
                  have H1 : (if ((x3_6 ++ (⟨#[32]⟩ : ByteArray)) ++ t473).size + 6 ≤ 9223372036854775807 then (gharrylaw25_event.j2 kj6 (((x3_6 ++ (⟨#[32]⟩ : ByteArray)) ++ t473) ++ (⟨#[32, 119, 97, 105, 116, 115]⟩ : ByteArray)) a0_0 a0_1 a0_2 a0_3 a0_4 a0_5 a0_6 false a0_8 a0_9 a0_10 l0_11 a0_12 a0_13 a0_14 a0_15 a0_16) else (none)) = some r := by rw [if_neg (show ¬ (false = true) by decide)] at H; exact H
                  clear H
                  have H := H1
                  clear H1
                  by_cases c31 : ((x3_6 ++ (⟨#[32]⟩ : ByteArray)) ++ t473).size + 6 ≤ 9223372036854775807
                  · rw [if_pos c31] at H
                    have c31b0 := eq_true c31
                    have c31b1 : decide (((x3_6 ++ (⟨#[32]⟩ : ByteArray)) ++ t473).size + 6 ≤ 9223372036854775807) = true := decide_eq_true c31
                    try have c31b2 : (9223372036854775807 < ((x3_6 ++ (⟨#[32]⟩ : ByteArray)) ++ t473).size + 6) = False := eq_false (Nat.not_lt.2 c31)
                    try have c31b8 : (9223372036854775807 < x3_6.size + 1 + t473.size + 6) = False := eq_false (Nat.not_lt.2 (by have h_ := c31; simp only [ByteArray.size_append] at h_; exact h_))
                    have H' := Aside0.mk H
                    clear H
                    go_wp2
                    go_meet
                    case rel => exact ⟨_, (((x3_6 ++ (⟨#[32]⟩ : ByteArray)) ++ t473) ++ (⟨#[32, 119, 97, 105, 116, 115]⟩ : ByteArray)), (by first | rfl | (simp; done) | (simp [*]; done)), H', ⟨by have := HJ1.out; have := HJ6.out; first | omega | exact Nat.le_refl _⟩, ⟨by (with_reducible repeat (first | refine blk_drewN ?_ _ | refine blk_drew ?_ | refine blk_alloc ?_ _)); exact BK468.out⟩, ⟨by repeat (first | (with_reducible first | exact HB.out | apply below_alloc | apply pw_below_drewN | apply below_drew1 | refine below_set ?_ GE468.out) | exact HB.out)⟩⟩
                  · rw [if_neg c31] at H
                    exact absurd H (by simp)
              case rest =>
                clear HC18
                try clear c1
                try clear c2
                try clear p2
                try clear c3
                try clear c4
                try clear c4b0
                try clear p4
                try clear q4
                try clear hx4
                try clear c8
                try clear c10
                try clear c10b0
                try clear c11
                try clear c11b0
                try clear c15
                try clear c15b0
                try clear c15b1
                try clear c15b2
                try clear c17
                try clear c17b0
                try clear c17b1
                try clear c17b2
                try clear c18
                try clear c22
                try clear c23
                try clear c23b0
                try clear c23b1
                try clear c24
                try clear c24b0
                try clear c24b1
                try clear c24b2
                try clear c26
                try clear c26b0
                try clear c26b1
                try clear c26b2
                try clear c28
                try clear c28b0
                try clear c28b1
                try clear c28b2
                try clear c31
                try clear c31b0
                try clear c31b1
                try clear c31b2
                try clear hcz19_0
                try clear hcz19_1
                try clear hcz19_10
                try clear hcz19_11
                try clear hcz19_12
                try clear hcz19_13
                try clear hcz19_14
                try clear hcz19_15
                try clear hcz19_16
                try clear hcz19_2
                try clear hcz19_3
                try clear hcz19_4
                try clear hcz19_5
                try clear hcz19_6
                try clear hcz19_7
                try clear hcz19_8
                try clear hcz19_9
                try clear hcz21_0
                try clear hcz21_1
                try clear hcz21_10
                try clear hcz21_11
                try clear hcz21_12
                try clear hcz21_13
                try clear hcz21_14
                try clear hcz21_15
                try clear hcz21_16
                try clear hcz21_2
                try clear hcz21_3
                try clear hcz21_4
                try clear hcz21_5
                try clear hcz21_6
                try clear hcz21_7
                try clear hcz21_8
                try clear hcz21_9
                try clear hcz25_0
                try clear hcz25_1
                try clear hcz25_10
                try clear hcz25_11
                try clear hcz25_12
                try clear hcz25_13
                try clear hcz25_14
                try clear hcz25_15
                try clear hcz25_16
                try clear hcz25_2
                try clear hcz25_3
                try clear hcz25_4
                try clear hcz25_5
                try clear hcz25_6
                try clear hcz25_7
                try clear hcz25_8
                try clear hcz25_9
                try clear hcz29_0
                try clear hcz29_1
                try clear hcz29_10
                try clear hcz29_11
                try clear hcz29_12
                try clear hcz29_13
                try clear hcz29_14
                try clear hcz29_15
                try clear hcz29_16
                try clear hcz29_2
                try clear hcz29_3
                try clear hcz29_4
                try clear hcz29_5
                try clear hcz29_6
                try clear hcz29_7
                try clear hcz29_8
                try clear hcz29_9
                try clear hcz5_0
                try clear hcz5_1
                try clear hcz5_10
                try clear hcz5_11
                try clear hcz5_12
                try clear hcz5_13
                try clear hcz5_14
                try clear hcz5_15
                try clear hcz5_16
                try clear hcz5_2
                try clear hcz5_3
                try clear hcz5_4
                try clear hcz5_5
                try clear hcz5_6
                try clear hcz5_7
                try clear hcz5_8
                try clear hcz5_9
                try clear hcz6_0
                try clear hcz6_1
                try clear hcz6_10
                try clear hcz6_11
                try clear hcz6_12
                try clear hcz6_13
                try clear hcz6_14
                try clear hcz6_15
                try clear hcz6_16
                try clear hcz6_2
                try clear hcz6_3
                try clear hcz6_4
                try clear hcz6_5
                try clear hcz6_6
                try clear hcz6_7
                try clear hcz6_8
                try clear hcz6_9
                try clear hfz19_0
                try clear hfz19_1
                try clear hfz19_10
                try clear hfz19_11
                try clear hfz19_12
                try clear hfz19_13
                try clear hfz19_14
                try clear hfz19_15
                try clear hfz19_16
                try clear hfz19_2
                try clear hfz19_3
                try clear hfz19_4
                try clear hfz19_5
                try clear hfz19_6
                try clear hfz19_7
                try clear hfz19_8
                try clear hfz19_9
                try clear hfz21_0
                try clear hfz21_1
                try clear hfz21_10
                try clear hfz21_11
                try clear hfz21_12
                try clear hfz21_13
                try clear hfz21_14
                try clear hfz21_15
                try clear hfz21_16
                try clear hfz21_2
                try clear hfz21_3
                try clear hfz21_4
                try clear hfz21_5
                try clear hfz21_6
                try clear hfz21_7
                try clear hfz21_8
                try clear hfz21_9
                try clear hfz25_0
                try clear hfz25_1
                try clear hfz25_10
                try clear hfz25_11
                try clear hfz25_12
                try clear hfz25_13
                try clear hfz25_14
                try clear hfz25_15
                try clear hfz25_16
                try clear hfz25_2
                try clear hfz25_3
                try clear hfz25_4
                try clear hfz25_5
                try clear hfz25_6
                try clear hfz25_7
                try clear hfz25_8
                try clear hfz25_9
                try clear hfz29_0
                try clear hfz29_1
                try clear hfz29_10
                try clear hfz29_11
                try clear hfz29_12
                try clear hfz29_13
                try clear hfz29_14
                try clear hfz29_15
                try clear hfz29_16
                try clear hfz29_2
                try clear hfz29_3
                try clear hfz29_4
                try clear hfz29_5
                try clear hfz29_6
                try clear hfz29_7
                try clear hfz29_8
                try clear hfz29_9
                try clear hfz5_0
                try clear hfz5_1
                try clear hfz5_10
                try clear hfz5_11
                try clear hfz5_12
                try clear hfz5_13
                try clear hfz5_14
                try clear hfz5_15
                try clear hfz5_16
                try clear hfz5_2
                try clear hfz5_3
                try clear hfz5_4
                try clear hfz5_5
                try clear hfz5_6
                try clear hfz5_7
                try clear hfz5_8
                try clear hfz5_9
                try clear hfz6_0
                try clear hfz6_1
                try clear hfz6_10
                try clear hfz6_11
                try clear hfz6_12
                try clear hfz6_13
                try clear hfz6_14
                try clear hfz6_15
                try clear hfz6_16
                try clear hfz6_2
                try clear hfz6_3
                try clear hfz6_4
                try clear hfz6_5
                try clear hfz6_6
                try clear hfz6_7
                try clear hfz6_8
                try clear hfz6_9
                try clear hx472_0
                try clear p2
                try clear p4
                try clear p472
                try clear q4
                try clear q472
                obtain ⟨kq, x3_17, rfl, HA, HJ17, BK468, HB⟩ := hcut
                cases kq with
                | zero => exact absurd HA.out (by simp [gharrylaw25_event.j2])
                | succ kj17 =>
                  have H := HA.out
                  clear HA
                  simp only [gharrylaw25_event.j2] at H
                  have HC32 := Aside0.mk H
                  clear H
                  have hcz33_0 : wc.cell? ⟨gb468, 0, none⟩ = some (.int .i64 a0_0) := (blk_cell BK468.out 0).trans rfl
                  have hcz33_1 : wc.cell? ⟨gb468, 1, none⟩ = some (.int .i64 a0_1) := (blk_cell BK468.out 1).trans rfl
                  have hcz33_2 : wc.cell? ⟨gb468, 2, none⟩ = some (.int .i64 a0_2) := (blk_cell BK468.out 2).trans rfl
                  have hcz33_3 : wc.cell? ⟨gb468, 3, none⟩ = some (.int .i64 a0_3) := (blk_cell BK468.out 3).trans rfl
                  have hcz33_4 : wc.cell? ⟨gb468, 4, none⟩ = some (.string a0_4) := (blk_cell BK468.out 4).trans rfl
                  have hcz33_5 : wc.cell? ⟨gb468, 5, none⟩ = some (.string a0_5) := (blk_cell BK468.out 5).trans rfl
                  have hcz33_6 : wc.cell? ⟨gb468, 6, none⟩ = some (.bool a0_6) := (blk_cell BK468.out 6).trans rfl
                  have hcz33_7 : wc.cell? ⟨gb468, 7, none⟩ = some (.bool a0_7) := (blk_cell BK468.out 7).trans rfl
                  have hcz33_8 : wc.cell? ⟨gb468, 8, none⟩ = some (.int .i64 a0_8) := (blk_cell BK468.out 8).trans rfl
                  have hcz33_9 : wc.cell? ⟨gb468, 9, none⟩ = some (.bool a0_9) := (blk_cell BK468.out 9).trans rfl
                  have hcz33_10 : wc.cell? ⟨gb468, 10, none⟩ = some (.int .i64 a0_10) := (blk_cell BK468.out 10).trans rfl
                  have hcz33_11 : wc.cell? ⟨gb468, 11, none⟩ = some (.slice A0_11 l0_11.length c0_11) := (blk_cell BK468.out 11).trans rfl
                  have hcz33_12 : wc.cell? ⟨gb468, 12, none⟩ = some (.int .i64 a0_12) := (blk_cell BK468.out 12).trans rfl
                  have hcz33_13 : wc.cell? ⟨gb468, 13, none⟩ = some (.int .i64 a0_13) := (blk_cell BK468.out 13).trans rfl
                  have hcz33_14 : wc.cell? ⟨gb468, 14, none⟩ = some (.int .i64 a0_14) := (blk_cell BK468.out 14).trans rfl
                  have hcz33_15 : wc.cell? ⟨gb468, 15, none⟩ = some (.int .i64 a0_15) := (blk_cell BK468.out 15).trans rfl
                  have hcz33_16 : wc.cell? ⟨gb468, 16, none⟩ = some (.int .i64 a0_16) := (blk_cell BK468.out 16).trans rfl
                  have hfz33_0 := blk_frozen BK468.out 0
                  have hfz33_1 := blk_frozen BK468.out 1
                  have hfz33_2 := blk_frozen BK468.out 2
                  have hfz33_3 := blk_frozen BK468.out 3
                  have hfz33_4 := blk_frozen BK468.out 4
                  have hfz33_5 := blk_frozen BK468.out 5
                  have hfz33_6 := blk_frozen BK468.out 6
                  have hfz33_7 := blk_frozen BK468.out 7
                  have hfz33_8 := blk_frozen BK468.out 8
                  have hfz33_9 := blk_frozen BK468.out 9
                  have hfz33_10 := blk_frozen BK468.out 10
                  have hfz33_11 := blk_frozen BK468.out 11
                  have hfz33_12 := blk_frozen BK468.out 12
                  have hfz33_13 := blk_frozen BK468.out 13
                  have hfz33_14 := blk_frozen BK468.out 14
                  have hfz33_15 := blk_frozen BK468.out 15
                  have hfz33_16 := blk_frozen BK468.out 16
                  go_upto_if 41 with (fail)
                  go_cut [3] (fun v3 wc => ∃ (kq : Nat) (x3_31 : ByteArray), v3 = .string x3_31 ∧ Aside0 (gharrylaw25_event.j3 kq x3_31 a0_0 a0_1 a0_2 a0_3 a0_4 a0_5 a0_6 a0_7 a0_8 a0_9 a0_10 l0_11 a0_12 a0_13 a0_14 a0_15 a0_16 = some r) ∧ Aside0 (kq ≤ kj17) ∧ Aside0 (wc.heap[gb468]? = some (.cells #[.int .i64 a0_0, .int .i64 a0_1, .int .i64 a0_2, .int .i64 a0_3, .string a0_4, .string a0_5, .bool a0_6, .bool a0_7, .int .i64 a0_8, .bool a0_9, .int .i64 a0_10, (.slice A0_11 l0_11.length c0_11), .int .i64 a0_12, .int .i64 a0_13, .int .i64 a0_14, .int .i64 a0_15, .int .i64 a0_16] 50 (0, 0))) ∧ Aside0 (Below w.heap.size w wc))
                  case first =>
                    have H := HC32.out
                    clear HC32
                    by_cases c34 : a0_9 = true
                    · subst c34
                      have H1 : (if x3_17.size + 1 ≤ 9223372036854775807 then ((gharrylaw25_cut.f a0_5).bind fun t475 => ((gharryref25_Word.f t475).bind fun t476 => (if (x3_17 ++ (⟨#[32]⟩ : ByteArray)).size + t476.size ≤ 9223372036854775807 then (gharrylaw25_event.j3 kj17 ((x3_17 ++ (⟨#[32]⟩ : ByteArray)) ++ t476) a0_0 a0_1 a0_2 a0_3 a0_4 a0_5 a0_6 a0_7 a0_8 true a0_10 l0_11 a0_12 a0_13 a0_14 a0_15 a0_16) else (none)))) else (none)) = some r := by rw [if_pos rfl] at H; exact H
                      clear H
                      have H := H1
                      clear H1
                      by_cases c35 : x3_17.size + 1 ≤ 9223372036854775807
                      · rw [if_pos c35] at H
                        have c35b0 := eq_true c35
                        have c35b1 : decide (x3_17.size + 1 ≤ 9223372036854775807) = true := decide_eq_true c35
                        try have c35b2 : (9223372036854775807 < x3_17.size + 1) = False := eq_false (Nat.not_lt.2 c35)
                        replace H := Option.bind_eq_some_iff.mp H
                        obtain ⟨t475, A360, H⟩ := H
                        replace H : ((gharryref25_Word.f t475).bind fun t476 => (if (x3_17 ++ (⟨#[32]⟩ : ByteArray)).size + t476.size ≤ 9223372036854775807 then (gharrylaw25_event.j3 kj17 ((x3_17 ++ (⟨#[32]⟩ : ByteArray)) ++ t476) a0_0 a0_1 a0_2 a0_3 a0_4 a0_5 a0_6 a0_7 a0_8 true a0_10 l0_11 a0_12 a0_13 a0_14 a0_15 a0_16) else (none))) = some r := H
                        have A36 := Aside0.mk A360
                        clear A360
                        replace H := Option.bind_eq_some_iff.mp H
                        obtain ⟨t476, A370, H⟩ := H
                        replace H : (if (x3_17 ++ (⟨#[32]⟩ : ByteArray)).size + t476.size ≤ 9223372036854775807 then (gharrylaw25_event.j3 kj17 ((x3_17 ++ (⟨#[32]⟩ : ByteArray)) ++ t476) a0_0 a0_1 a0_2 a0_3 a0_4 a0_5 a0_6 a0_7 a0_8 true a0_10 l0_11 a0_12 a0_13 a0_14 a0_15 a0_16) else (none)) = some r := H
                        have A37 := Aside0.mk A370
                        clear A370
                        by_cases c38 : (x3_17 ++ (⟨#[32]⟩ : ByteArray)).size + t476.size ≤ 9223372036854775807
                        · rw [if_pos c38] at H
                          have c38b0 := eq_true c38
                          have c38b1 : decide ((x3_17 ++ (⟨#[32]⟩ : ByteArray)).size + t476.size ≤ 9223372036854775807) = true := decide_eq_true c38
                          try have c38b2 : (9223372036854775807 < (x3_17 ++ (⟨#[32]⟩ : ByteArray)).size + t476.size) = False := eq_false (Nat.not_lt.2 c38)
                          try have c38b8 : (9223372036854775807 < x3_17.size + 1 + t476.size) = False := eq_false (Nat.not_lt.2 (by have h_ := c38; simp only [ByteArray.size_append] at h_; exact h_))
                          have H' := Aside0.mk H
                          clear H
                          have hcz39_0 : wc.cell? ⟨gb468, 0, none⟩ = some (.int .i64 a0_0) := (blk_cell BK468.out 0).trans rfl
                          have hcz39_1 : wc.cell? ⟨gb468, 1, none⟩ = some (.int .i64 a0_1) := (blk_cell BK468.out 1).trans rfl
                          have hcz39_2 : wc.cell? ⟨gb468, 2, none⟩ = some (.int .i64 a0_2) := (blk_cell BK468.out 2).trans rfl
                          have hcz39_3 : wc.cell? ⟨gb468, 3, none⟩ = some (.int .i64 a0_3) := (blk_cell BK468.out 3).trans rfl
                          have hcz39_4 : wc.cell? ⟨gb468, 4, none⟩ = some (.string a0_4) := (blk_cell BK468.out 4).trans rfl
                          have hcz39_5 : wc.cell? ⟨gb468, 5, none⟩ = some (.string a0_5) := (blk_cell BK468.out 5).trans rfl
                          have hcz39_6 : wc.cell? ⟨gb468, 6, none⟩ = some (.bool a0_6) := (blk_cell BK468.out 6).trans rfl
                          have hcz39_7 : wc.cell? ⟨gb468, 7, none⟩ = some (.bool a0_7) := (blk_cell BK468.out 7).trans rfl
                          have hcz39_8 : wc.cell? ⟨gb468, 8, none⟩ = some (.int .i64 a0_8) := (blk_cell BK468.out 8).trans rfl
                          have hcz39_9 : wc.cell? ⟨gb468, 9, none⟩ = some (.bool true) := (blk_cell BK468.out 9).trans rfl
                          have hcz39_10 : wc.cell? ⟨gb468, 10, none⟩ = some (.int .i64 a0_10) := (blk_cell BK468.out 10).trans rfl
                          have hcz39_11 : wc.cell? ⟨gb468, 11, none⟩ = some (.slice A0_11 l0_11.length c0_11) := (blk_cell BK468.out 11).trans rfl
                          have hcz39_12 : wc.cell? ⟨gb468, 12, none⟩ = some (.int .i64 a0_12) := (blk_cell BK468.out 12).trans rfl
                          have hcz39_13 : wc.cell? ⟨gb468, 13, none⟩ = some (.int .i64 a0_13) := (blk_cell BK468.out 13).trans rfl
                          have hcz39_14 : wc.cell? ⟨gb468, 14, none⟩ = some (.int .i64 a0_14) := (blk_cell BK468.out 14).trans rfl
                          have hcz39_15 : wc.cell? ⟨gb468, 15, none⟩ = some (.int .i64 a0_15) := (blk_cell BK468.out 15).trans rfl
                          have hcz39_16 : wc.cell? ⟨gb468, 16, none⟩ = some (.int .i64 a0_16) := (blk_cell BK468.out 16).trans rfl
                          have hfz39_0 := blk_frozen BK468.out 0
                          have hfz39_1 := blk_frozen BK468.out 1
                          have hfz39_2 := blk_frozen BK468.out 2
                          have hfz39_3 := blk_frozen BK468.out 3
                          have hfz39_4 := blk_frozen BK468.out 4
                          have hfz39_5 := blk_frozen BK468.out 5
                          have hfz39_6 := blk_frozen BK468.out 6
                          have hfz39_7 := blk_frozen BK468.out 7
                          have hfz39_8 := blk_frozen BK468.out 8
                          have hfz39_9 := blk_frozen BK468.out 9
                          have hfz39_10 := blk_frozen BK468.out 10
                          have hfz39_11 := blk_frozen BK468.out 11
                          have hfz39_12 := blk_frozen BK468.out 12
                          have hfz39_13 := blk_frozen BK468.out 13
                          have hfz39_14 := blk_frozen BK468.out 14
                          have hfz39_15 := blk_frozen BK468.out 15
                          have hfz39_16 := blk_frozen BK468.out 16
                          go_wp2_with (first | ((with_reducible refine gate_callee (f := 11) rfl ?_); refine goesL_ (some 46) rfl rfl Tryd.func11 (by kernel_rfl) rfl #[.string a0_5] rfl (by (try simp only [List.map_toArray, List.map_cons, List.map_nil]); first | done | rfl | (simp only [List.length_drop, List.length_take]; rfl)) ?_; (with_reducible refine (gharrylaw25_cut.calls a0_5 t475 _ A36.out).mono ?_); rintro e w' ⟨rfl, ⟨nd, rfl⟩⟩; refine ⟨_, rfl, ?_⟩) | ((with_reducible refine gate_callee (f := 15) rfl ?_); refine goesL_ (some 47) rfl rfl Tryd.func15 (by kernel_rfl) rfl #[.string t475] rfl (by (try simp only [List.map_toArray, List.map_cons, List.map_nil]); first | done | rfl | (simp only [List.length_drop, List.length_take]; rfl)) ?_; (with_reducible refine (gharryref25_Word.calls t475 t476 _ A37.out).mono ?_); rintro e w' ⟨rfl, ⟨nd, rfl⟩⟩; refine ⟨_, rfl, ?_⟩))
                          go_meet
                          case rel => exact ⟨_, ((x3_17 ++ (⟨#[32]⟩ : ByteArray)) ++ t476), (by first | rfl | (simp; done) | (simp [*]; done)), H', ⟨by have := HJ1.out; have := HJ6.out; have := HJ17.out; first | omega | exact Nat.le_refl _⟩, ⟨by (with_reducible repeat (first | refine blk_drewN ?_ _ | refine blk_drew ?_ | refine blk_alloc ?_ _)); exact BK468.out⟩, ⟨by repeat (first | (with_reducible first | exact HB.out | apply below_alloc | apply pw_below_drewN | apply below_drew1 | refine below_set ?_ GE468.out) | exact HB.out)⟩⟩
                        · rw [if_neg c38] at H
                          exact absurd H (by simp)
                      · rw [if_neg c35] at H
                        exact absurd H (by simp)
                    · replace c34 := Bool.eq_false_iff.mpr c34
                      subst c34
                      have H1 : (gharrylaw25_event.j3 kj17 x3_17 a0_0 a0_1 a0_2 a0_3 a0_4 a0_5 a0_6 a0_7 a0_8 false a0_10 l0_11 a0_12 a0_13 a0_14 a0_15 a0_16) = some r := by rw [if_neg (show ¬ (false = true) by decide)] at H; exact H
                      clear H
                      have H := H1
                      clear H1
                      have H' := Aside0.mk H
                      clear H
                      go_wp2
                      go_meet
                      case rel => exact ⟨_, (x3_17), (by first | rfl | (simp; done) | (simp [*]; done)), H', ⟨by have := HJ1.out; have := HJ6.out; have := HJ17.out; first | omega | exact Nat.le_refl _⟩, ⟨by (with_reducible repeat (first | refine blk_drewN ?_ _ | refine blk_drew ?_ | refine blk_alloc ?_ _)); exact BK468.out⟩, ⟨by repeat (first | (with_reducible first | exact HB.out | apply below_alloc | apply pw_below_drewN | apply below_drew1 | refine below_set ?_ GE468.out) | exact HB.out)⟩⟩
                  case rest =>
                    clear HC32
                    try clear c1
                    try clear c2
                    try clear p2
                    try clear c3
                    try clear c4
                    try clear c4b0
                    try clear p4
                    try clear q4
                    try clear hx4
                    try clear c8
                    try clear c10
                    try clear c10b0
                    try clear c11
                    try clear c11b0
                    try clear c15
                    try clear c15b0
                    try clear c15b1
                    try clear c15b2
                    try clear c17
                    try clear c17b0
                    try clear c17b1
                    try clear c17b2
                    try clear c18
                    try clear c22
                    try clear c23
                    try clear c23b0
                    try clear c23b1
                    try clear c24
                    try clear c24b0
                    try clear c24b1
                    try clear c24b2
                    try clear c26
                    try clear c26b0
                    try clear c26b1
                    try clear c26b2
                    try clear c28
                    try clear c28b0
                    try clear c28b1
                    try clear c28b2
                    try clear c31
                    try clear c31b0
                    try clear c31b1
                    try clear c31b2
                    try clear c34
                    try clear c35
                    try clear c35b0
                    try clear c35b1
                    try clear c35b2
                    try clear c38
                    try clear c38b0
                    try clear c38b1
                    try clear c38b2
                    try clear hcz19_0
                    try clear hcz19_1
                    try clear hcz19_10
                    try clear hcz19_11
                    try clear hcz19_12
                    try clear hcz19_13
                    try clear hcz19_14
                    try clear hcz19_15
                    try clear hcz19_16
                    try clear hcz19_2
                    try clear hcz19_3
                    try clear hcz19_4
                    try clear hcz19_5
                    try clear hcz19_6
                    try clear hcz19_7
                    try clear hcz19_8
                    try clear hcz19_9
                    try clear hcz21_0
                    try clear hcz21_1
                    try clear hcz21_10
                    try clear hcz21_11
                    try clear hcz21_12
                    try clear hcz21_13
                    try clear hcz21_14
                    try clear hcz21_15
                    try clear hcz21_16
                    try clear hcz21_2
                    try clear hcz21_3
                    try clear hcz21_4
                    try clear hcz21_5
                    try clear hcz21_6
                    try clear hcz21_7
                    try clear hcz21_8
                    try clear hcz21_9
                    try clear hcz25_0
                    try clear hcz25_1
                    try clear hcz25_10
                    try clear hcz25_11
                    try clear hcz25_12
                    try clear hcz25_13
                    try clear hcz25_14
                    try clear hcz25_15
                    try clear hcz25_16
                    try clear hcz25_2
                    try clear hcz25_3
                    try clear hcz25_4
                    try clear hcz25_5
                    try clear hcz25_6
                    try clear hcz25_7
                    try clear hcz25_8
                    try clear hcz25_9
                    try clear hcz29_0
                    try clear hcz29_1
                    try clear hcz29_10
                    try clear hcz29_11
                    try clear hcz29_12
                    try clear hcz29_13
                    try clear hcz29_14
                    try clear hcz29_15
                    try clear hcz29_16
                    try clear hcz29_2
                    try clear hcz29_3
                    try clear hcz29_4
                    try clear hcz29_5
                    try clear hcz29_6
                    try clear hcz29_7
                    try clear hcz29_8
                    try clear hcz29_9
                    try clear hcz33_0
                    try clear hcz33_1
                    try clear hcz33_10
                    try clear hcz33_11
                    try clear hcz33_12
                    try clear hcz33_13
                    try clear hcz33_14
                    try clear hcz33_15
                    try clear hcz33_16
                    try clear hcz33_2
                    try clear hcz33_3
                    try clear hcz33_4
                    try clear hcz33_5
                    try clear hcz33_6
                    try clear hcz33_7
                    try clear hcz33_8
                    try clear hcz33_9
                    try clear hcz39_0
                    try clear hcz39_1
                    try clear hcz39_10
                    try clear hcz39_11
                    try clear hcz39_12
                    try clear hcz39_13
                    try clear hcz39_14
                    try clear hcz39_15
                    try clear hcz39_16
                    try clear hcz39_2
                    try clear hcz39_3
                    try clear hcz39_4
                    try clear hcz39_5
                    try clear hcz39_6
                    try clear hcz39_7
                    try clear hcz39_8
                    try clear hcz39_9
                    try clear hcz5_0
                    try clear hcz5_1
                    try clear hcz5_10
                    try clear hcz5_11
                    try clear hcz5_12
                    try clear hcz5_13
                    try clear hcz5_14
                    try clear hcz5_15
                    try clear hcz5_16
                    try clear hcz5_2
                    try clear hcz5_3
                    try clear hcz5_4
                    try clear hcz5_5
                    try clear hcz5_6
                    try clear hcz5_7
                    try clear hcz5_8
                    try clear hcz5_9
                    try clear hcz6_0
                    try clear hcz6_1
                    try clear hcz6_10
                    try clear hcz6_11
                    try clear hcz6_12
                    try clear hcz6_13
                    try clear hcz6_14
                    try clear hcz6_15
                    try clear hcz6_16
                    try clear hcz6_2
                    try clear hcz6_3
                    try clear hcz6_4
                    try clear hcz6_5
                    try clear hcz6_6
                    try clear hcz6_7
                    try clear hcz6_8
                    try clear hcz6_9
                    try clear hfz19_0
                    try clear hfz19_1
                    try clear hfz19_10
                    try clear hfz19_11
                    try clear hfz19_12
                    try clear hfz19_13
                    try clear hfz19_14
                    try clear hfz19_15
                    try clear hfz19_16
                    try clear hfz19_2
                    try clear hfz19_3
                    try clear hfz19_4
                    try clear hfz19_5
                    try clear hfz19_6
                    try clear hfz19_7
                    try clear hfz19_8
                    try clear hfz19_9
                    try clear hfz21_0
                    try clear hfz21_1
                    try clear hfz21_10
                    try clear hfz21_11
                    try clear hfz21_12
                    try clear hfz21_13
                    try clear hfz21_14
                    try clear hfz21_15
                    try clear hfz21_16
                    try clear hfz21_2
                    try clear hfz21_3
                    try clear hfz21_4
                    try clear hfz21_5
                    try clear hfz21_6
                    try clear hfz21_7
                    try clear hfz21_8
                    try clear hfz21_9
                    try clear hfz25_0
                    try clear hfz25_1
                    try clear hfz25_10
                    try clear hfz25_11
                    try clear hfz25_12
                    try clear hfz25_13
                    try clear hfz25_14
                    try clear hfz25_15
                    try clear hfz25_16
                    try clear hfz25_2
                    try clear hfz25_3
                    try clear hfz25_4
                    try clear hfz25_5
                    try clear hfz25_6
                    try clear hfz25_7
                    try clear hfz25_8
                    try clear hfz25_9
                    try clear hfz29_0
                    try clear hfz29_1
                    try clear hfz29_10
                    try clear hfz29_11
                    try clear hfz29_12
                    try clear hfz29_13
                    try clear hfz29_14
                    try clear hfz29_15
                    try clear hfz29_16
                    try clear hfz29_2
                    try clear hfz29_3
                    try clear hfz29_4
                    try clear hfz29_5
                    try clear hfz29_6
                    try clear hfz29_7
                    try clear hfz29_8
                    try clear hfz29_9
                    try clear hfz33_0
                    try clear hfz33_1
                    try clear hfz33_10
                    try clear hfz33_11
                    try clear hfz33_12
                    try clear hfz33_13
                    try clear hfz33_14
                    try clear hfz33_15
                    try clear hfz33_16
                    try clear hfz33_2
                    try clear hfz33_3
                    try clear hfz33_4
                    try clear hfz33_5
                    try clear hfz33_6
                    try clear hfz33_7
                    try clear hfz33_8
                    try clear hfz33_9
                    try clear hfz39_0
                    try clear hfz39_1
                    try clear hfz39_10
                    try clear hfz39_11
                    try clear hfz39_12
                    try clear hfz39_13
                    try clear hfz39_14
                    try clear hfz39_15
                    try clear hfz39_16
                    try clear hfz39_2
                    try clear hfz39_3
                    try clear hfz39_4
                    try clear hfz39_5
                    try clear hfz39_6
                    try clear hfz39_7
                    try clear hfz39_8
                    try clear hfz39_9
                    try clear hfz5_0
                    try clear hfz5_1
                    try clear hfz5_10
                    try clear hfz5_11
                    try clear hfz5_12
                    try clear hfz5_13
                    try clear hfz5_14
                    try clear hfz5_15
                    try clear hfz5_16
                    try clear hfz5_2
                    try clear hfz5_3
                    try clear hfz5_4
                    try clear hfz5_5
                    try clear hfz5_6
                    try clear hfz5_7
                    try clear hfz5_8
                    try clear hfz5_9
                    try clear hfz6_0
                    try clear hfz6_1
                    try clear hfz6_10
                    try clear hfz6_11
                    try clear hfz6_12
                    try clear hfz6_13
                    try clear hfz6_14
                    try clear hfz6_15
                    try clear hfz6_16
                    try clear hfz6_2
                    try clear hfz6_3
                    try clear hfz6_4
                    try clear hfz6_5
                    try clear hfz6_6
                    try clear hfz6_7
                    try clear hfz6_8
                    try clear hfz6_9
                    try clear hx472_0
                    try clear p2
                    try clear p4
                    try clear p472
                    try clear q4
                    try clear q472
                    obtain ⟨kq, x3_31, rfl, HA, HJ31, BK468, HB⟩ := hcut
                    cases kq with
                    | zero => exact absurd HA.out (by simp [gharrylaw25_event.j3])
                    | succ kj31 =>
                      have H := HA.out
                      clear HA
                      simp only [gharrylaw25_event.j3] at H
                      have H' := Aside0.mk H
                      clear H
                      go_wp2
                      go_loopg [3, 4] kj31 (fun kq v3 v4 w' => ∃ (x3_5 : ByteArray) (x4_5 : Int), v3 = .string x3_5 ∧ v4 = .int .i64 x4_5 ∧ Aside0 (gharrylaw25_event.l0 kq x3_5 x4_5 a0_0 a0_1 a0_2 a0_3 a0_4 a0_5 a0_6 a0_7 a0_8 a0_9 a0_10 l0_11 a0_12 a0_13 a0_14 a0_15 a0_16 = some r) ∧ Aside0 (kq ≤ kj31) ∧ Aside0 (w'.heap[gb468]? = some (.cells #[.int .i64 a0_0, .int .i64 a0_1, .int .i64 a0_2, .int .i64 a0_3, .string a0_4, .string a0_5, .bool a0_6, .bool a0_7, .int .i64 a0_8, .bool a0_9, .int .i64 a0_10, (.slice A0_11 l0_11.length c0_11), .int .i64 a0_12, .int .i64 a0_13, .int .i64 a0_14, .int .i64 a0_15, .int .i64 a0_16] 50 (0, 0))) ∧ Aside0 (Below w.heap.size w w'))
                      case atStart => exact ⟨(x3_31), (0), (by first | rfl | (simp; done) | (simp [*]; done)), (by first | rfl | (simp; done) | (simp [*]; done)), H', ⟨Nat.le_refl _⟩, ⟨by (with_reducible repeat (first | refine blk_drewN ?_ _ | refine blk_drew ?_ | refine blk_alloc ?_ _)); exact BK468.out⟩, ⟨by repeat (first | (with_reducible first | exact HB.out | apply below_alloc | apply pw_below_drewN | apply below_drew1 | refine below_set ?_ GE468.out) | exact HB.out)⟩⟩
                      case round =>
                        clear H'
                        try clear c1
                        try clear c2
                        try clear p2
                        try clear c3
                        try clear c4
                        try clear c4b0
                        try clear p4
                        try clear q4
                        try clear hx4
                        try clear c8
                        try clear c10
                        try clear c10b0
                        try clear c11
                        try clear c11b0
                        try clear c15
                        try clear c15b0
                        try clear c15b1
                        try clear c15b2
                        try clear c17
                        try clear c17b0
                        try clear c17b1
                        try clear c17b2
                        try clear c18
                        try clear c22
                        try clear c23
                        try clear c23b0
                        try clear c23b1
                        try clear c24
                        try clear c24b0
                        try clear c24b1
                        try clear c24b2
                        try clear c26
                        try clear c26b0
                        try clear c26b1
                        try clear c26b2
                        try clear c28
                        try clear c28b0
                        try clear c28b1
                        try clear c28b2
                        try clear c31
                        try clear c31b0
                        try clear c31b1
                        try clear c31b2
                        try clear c34
                        try clear c35
                        try clear c35b0
                        try clear c35b1
                        try clear c35b2
                        try clear c38
                        try clear c38b0
                        try clear c38b1
                        try clear c38b2
                        try clear hcz19_0
                        try clear hcz19_1
                        try clear hcz19_10
                        try clear hcz19_11
                        try clear hcz19_12
                        try clear hcz19_13
                        try clear hcz19_14
                        try clear hcz19_15
                        try clear hcz19_16
                        try clear hcz19_2
                        try clear hcz19_3
                        try clear hcz19_4
                        try clear hcz19_5
                        try clear hcz19_6
                        try clear hcz19_7
                        try clear hcz19_8
                        try clear hcz19_9
                        try clear hcz21_0
                        try clear hcz21_1
                        try clear hcz21_10
                        try clear hcz21_11
                        try clear hcz21_12
                        try clear hcz21_13
                        try clear hcz21_14
                        try clear hcz21_15
                        try clear hcz21_16
                        try clear hcz21_2
                        try clear hcz21_3
                        try clear hcz21_4
                        try clear hcz21_5
                        try clear hcz21_6
                        try clear hcz21_7
                        try clear hcz21_8
                        try clear hcz21_9
                        try clear hcz25_0
                        try clear hcz25_1
                        try clear hcz25_10
                        try clear hcz25_11
                        try clear hcz25_12
                        try clear hcz25_13
                        try clear hcz25_14
                        try clear hcz25_15
                        try clear hcz25_16
                        try clear hcz25_2
                        try clear hcz25_3
                        try clear hcz25_4
                        try clear hcz25_5
                        try clear hcz25_6
                        try clear hcz25_7
                        try clear hcz25_8
                        try clear hcz25_9
                        try clear hcz29_0
                        try clear hcz29_1
                        try clear hcz29_10
                        try clear hcz29_11
                        try clear hcz29_12
                        try clear hcz29_13
                        try clear hcz29_14
                        try clear hcz29_15
                        try clear hcz29_16
                        try clear hcz29_2
                        try clear hcz29_3
                        try clear hcz29_4
                        try clear hcz29_5
                        try clear hcz29_6
                        try clear hcz29_7
                        try clear hcz29_8
                        try clear hcz29_9
                        try clear hcz33_0
                        try clear hcz33_1
                        try clear hcz33_10
                        try clear hcz33_11
                        try clear hcz33_12
                        try clear hcz33_13
                        try clear hcz33_14
                        try clear hcz33_15
                        try clear hcz33_16
                        try clear hcz33_2
                        try clear hcz33_3
                        try clear hcz33_4
                        try clear hcz33_5
                        try clear hcz33_6
                        try clear hcz33_7
                        try clear hcz33_8
                        try clear hcz33_9
                        try clear hcz39_0
                        try clear hcz39_1
                        try clear hcz39_10
                        try clear hcz39_11
                        try clear hcz39_12
                        try clear hcz39_13
                        try clear hcz39_14
                        try clear hcz39_15
                        try clear hcz39_16
                        try clear hcz39_2
                        try clear hcz39_3
                        try clear hcz39_4
                        try clear hcz39_5
                        try clear hcz39_6
                        try clear hcz39_7
                        try clear hcz39_8
                        try clear hcz39_9
                        try clear hcz5_0
                        try clear hcz5_1
                        try clear hcz5_10
                        try clear hcz5_11
                        try clear hcz5_12
                        try clear hcz5_13
                        try clear hcz5_14
                        try clear hcz5_15
                        try clear hcz5_16
                        try clear hcz5_2
                        try clear hcz5_3
                        try clear hcz5_4
                        try clear hcz5_5
                        try clear hcz5_6
                        try clear hcz5_7
                        try clear hcz5_8
                        try clear hcz5_9
                        try clear hcz6_0
                        try clear hcz6_1
                        try clear hcz6_10
                        try clear hcz6_11
                        try clear hcz6_12
                        try clear hcz6_13
                        try clear hcz6_14
                        try clear hcz6_15
                        try clear hcz6_16
                        try clear hcz6_2
                        try clear hcz6_3
                        try clear hcz6_4
                        try clear hcz6_5
                        try clear hcz6_6
                        try clear hcz6_7
                        try clear hcz6_8
                        try clear hcz6_9
                        try clear hfz19_0
                        try clear hfz19_1
                        try clear hfz19_10
                        try clear hfz19_11
                        try clear hfz19_12
                        try clear hfz19_13
                        try clear hfz19_14
                        try clear hfz19_15
                        try clear hfz19_16
                        try clear hfz19_2
                        try clear hfz19_3
                        try clear hfz19_4
                        try clear hfz19_5
                        try clear hfz19_6
                        try clear hfz19_7
                        try clear hfz19_8
                        try clear hfz19_9
                        try clear hfz21_0
                        try clear hfz21_1
                        try clear hfz21_10
                        try clear hfz21_11
                        try clear hfz21_12
                        try clear hfz21_13
                        try clear hfz21_14
                        try clear hfz21_15
                        try clear hfz21_16
                        try clear hfz21_2
                        try clear hfz21_3
                        try clear hfz21_4
                        try clear hfz21_5
                        try clear hfz21_6
                        try clear hfz21_7
                        try clear hfz21_8
                        try clear hfz21_9
                        try clear hfz25_0
                        try clear hfz25_1
                        try clear hfz25_10
                        try clear hfz25_11
                        try clear hfz25_12
                        try clear hfz25_13
                        try clear hfz25_14
                        try clear hfz25_15
                        try clear hfz25_16
                        try clear hfz25_2
                        try clear hfz25_3
                        try clear hfz25_4
                        try clear hfz25_5
                        try clear hfz25_6
                        try clear hfz25_7
                        try clear hfz25_8
                        try clear hfz25_9
                        try clear hfz29_0
                        try clear hfz29_1
                        try clear hfz29_10
                        try clear hfz29_11
                        try clear hfz29_12
                        try clear hfz29_13
                        try clear hfz29_14
                        try clear hfz29_15
                        try clear hfz29_16
                        try clear hfz29_2
                        try clear hfz29_3
                        try clear hfz29_4
                        try clear hfz29_5
                        try clear hfz29_6
                        try clear hfz29_7
                        try clear hfz29_8
                        try clear hfz29_9
                        try clear hfz33_0
                        try clear hfz33_1
                        try clear hfz33_10
                        try clear hfz33_11
                        try clear hfz33_12
                        try clear hfz33_13
                        try clear hfz33_14
                        try clear hfz33_15
                        try clear hfz33_16
                        try clear hfz33_2
                        try clear hfz33_3
                        try clear hfz33_4
                        try clear hfz33_5
                        try clear hfz33_6
                        try clear hfz33_7
                        try clear hfz33_8
                        try clear hfz33_9
                        try clear hfz39_0
                        try clear hfz39_1
                        try clear hfz39_10
                        try clear hfz39_11
                        try clear hfz39_12
                        try clear hfz39_13
                        try clear hfz39_14
                        try clear hfz39_15
                        try clear hfz39_16
                        try clear hfz39_2
                        try clear hfz39_3
                        try clear hfz39_4
                        try clear hfz39_5
                        try clear hfz39_6
                        try clear hfz39_7
                        try clear hfz39_8
                        try clear hfz39_9
                        try clear hfz5_0
                        try clear hfz5_1
                        try clear hfz5_10
                        try clear hfz5_11
                        try clear hfz5_12
                        try clear hfz5_13
                        try clear hfz5_14
                        try clear hfz5_15
                        try clear hfz5_16
                        try clear hfz5_2
                        try clear hfz5_3
                        try clear hfz5_4
                        try clear hfz5_5
                        try clear hfz5_6
                        try clear hfz5_7
                        try clear hfz5_8
                        try clear hfz5_9
                        try clear hfz6_0
                        try clear hfz6_1
                        try clear hfz6_10
                        try clear hfz6_11
                        try clear hfz6_12
                        try clear hfz6_13
                        try clear hfz6_14
                        try clear hfz6_15
                        try clear hfz6_16
                        try clear hfz6_2
                        try clear hfz6_3
                        try clear hfz6_4
                        try clear hfz6_5
                        try clear hfz6_6
                        try clear hfz6_7
                        try clear hfz6_8
                        try clear hfz6_9
                        try clear hx472_0
                        try clear p2
                        try clear p4
                        try clear p472
                        try clear q4
                        try clear q472
                        obtain ⟨x3_5, x4_5, rfl, rfl, HA, HK5, BK468, HB⟩ := hrel
                        cases gk with
                        | zero => exact absurd HA.out (by simp [gharrylaw25_event.l0])
                        | succ k5 =>
                          have H := HA.out
                          clear HA
                          simp only [gharrylaw25_event.l0] at H
                          by_cases c40 : x4_5 < (l0_11.length : Int)
                          · rw [if_pos c40] at H
                            have c40b0 : decide (x4_5 < (l0_11.length : Int)) = true := decide_eq_true c40
                            clear c40
                            by_cases c41 : x3_5.size + 1 ≤ 9223372036854775807
                            · rw [if_pos c41] at H
                              have c41b0 := eq_true c41
                              have c41b1 : decide (x3_5.size + 1 ≤ 9223372036854775807) = true := decide_eq_true c41
                              try have c41b2 : (9223372036854775807 < x3_5.size + 1) = False := eq_false (Nat.not_lt.2 c41)
                              by_cases c42 : 0 ≤ x4_5
                              · rw [if_pos c42] at H
                                have c42b0 : decide (0 ≤ x4_5) = true := decide_eq_true c42
                                clear c42
                                replace H := Option.bind_eq_some_iff.mp H
                                obtain ⟨t478, A430, H⟩ := H
                                replace H : (if (x3_5 ++ (⟨#[32]⟩ : ByteArray)).size + t478.size ≤ 9223372036854775807 then (if ((x3_5 ++ (⟨#[32]⟩ : ByteArray)) ++ t478).size + 1 ≤ 9223372036854775807 then ((gharryref25_Word.f ((rd_T52 l0_11 x4_5).f1)).bind fun t480 => (if (((x3_5 ++ (⟨#[32]⟩ : ByteArray)) ++ t478) ++ (⟨#[32]⟩ : ByteArray)).size + t480.size ≤ 9223372036854775807 then (gharrylaw25_event.l0 k5 ((((x3_5 ++ (⟨#[32]⟩ : ByteArray)) ++ t478) ++ (⟨#[32]⟩ : ByteArray)) ++ t480) (wrap64 (x4_5 + 1)) a0_0 a0_1 a0_2 a0_3 a0_4 a0_5 a0_6 a0_7 a0_8 a0_9 a0_10 l0_11 a0_12 a0_13 a0_14 a0_15 a0_16) else (none))) else (none)) else (none)) = some r := H
                                have A43 := Aside0.mk A430
                                clear A430
                                by_cases c44 : (x3_5 ++ (⟨#[32]⟩ : ByteArray)).size + t478.size ≤ 9223372036854775807
                                · rw [if_pos c44] at H
                                  have c44b0 := eq_true c44
                                  have c44b1 : decide ((x3_5 ++ (⟨#[32]⟩ : ByteArray)).size + t478.size ≤ 9223372036854775807) = true := decide_eq_true c44
                                  try have c44b2 : (9223372036854775807 < (x3_5 ++ (⟨#[32]⟩ : ByteArray)).size + t478.size) = False := eq_false (Nat.not_lt.2 c44)
                                  try have c44b8 : (9223372036854775807 < x3_5.size + 1 + t478.size) = False := eq_false (Nat.not_lt.2 (by have h_ := c44; simp only [ByteArray.size_append] at h_; exact h_))
                                  by_cases c45 : ((x3_5 ++ (⟨#[32]⟩ : ByteArray)) ++ t478).size + 1 ≤ 9223372036854775807
                                  · rw [if_pos c45] at H
                                    have c45b0 := eq_true c45
                                    have c45b1 : decide (((x3_5 ++ (⟨#[32]⟩ : ByteArray)) ++ t478).size + 1 ≤ 9223372036854775807) = true := decide_eq_true c45
                                    try have c45b2 : (9223372036854775807 < ((x3_5 ++ (⟨#[32]⟩ : ByteArray)) ++ t478).size + 1) = False := eq_false (Nat.not_lt.2 c45)
                                    try have c45b8 : (9223372036854775807 < x3_5.size + 1 + t478.size + 1) = False := eq_false (Nat.not_lt.2 (by have h_ := c45; simp only [ByteArray.size_append] at h_; exact h_))
                                    replace H := Option.bind_eq_some_iff.mp H
                                    obtain ⟨t480, A460, H⟩ := H
                                    replace H : (if (((x3_5 ++ (⟨#[32]⟩ : ByteArray)) ++ t478) ++ (⟨#[32]⟩ : ByteArray)).size + t480.size ≤ 9223372036854775807 then (gharrylaw25_event.l0 k5 ((((x3_5 ++ (⟨#[32]⟩ : ByteArray)) ++ t478) ++ (⟨#[32]⟩ : ByteArray)) ++ t480) (wrap64 (x4_5 + 1)) a0_0 a0_1 a0_2 a0_3 a0_4 a0_5 a0_6 a0_7 a0_8 a0_9 a0_10 l0_11 a0_12 a0_13 a0_14 a0_15 a0_16) else (none)) = some r := H
                                    have A46 := Aside0.mk A460
                                    clear A460
                                    by_cases c47 : (((x3_5 ++ (⟨#[32]⟩ : ByteArray)) ++ t478) ++ (⟨#[32]⟩ : ByteArray)).size + t480.size ≤ 9223372036854775807
                                    · rw [if_pos c47] at H
                                      have c47b0 := eq_true c47
                                      have c47b1 : decide ((((x3_5 ++ (⟨#[32]⟩ : ByteArray)) ++ t478) ++ (⟨#[32]⟩ : ByteArray)).size + t480.size ≤ 9223372036854775807) = true := decide_eq_true c47
                                      try have c47b2 : (9223372036854775807 < (((x3_5 ++ (⟨#[32]⟩ : ByteArray)) ++ t478) ++ (⟨#[32]⟩ : ByteArray)).size + t480.size) = False := eq_false (Nat.not_lt.2 c47)
                                      try have c47b8 : (9223372036854775807 < x3_5.size + 1 + t478.size + 1 + t480.size) = False := eq_false (Nat.not_lt.2 (by have h_ := c47; simp only [ByteArray.size_append] at h_; exact h_))
                                      have H' := Aside0.mk H
                                      clear H
                                      have hcz48_0 : wr.cell? ⟨gb468, 0, none⟩ = some (.int .i64 a0_0) := (blk_cell BK468.out 0).trans rfl
                                      have hcz48_1 : wr.cell? ⟨gb468, 1, none⟩ = some (.int .i64 a0_1) := (blk_cell BK468.out 1).trans rfl
                                      have hcz48_2 : wr.cell? ⟨gb468, 2, none⟩ = some (.int .i64 a0_2) := (blk_cell BK468.out 2).trans rfl
                                      have hcz48_3 : wr.cell? ⟨gb468, 3, none⟩ = some (.int .i64 a0_3) := (blk_cell BK468.out 3).trans rfl
                                      have hcz48_4 : wr.cell? ⟨gb468, 4, none⟩ = some (.string a0_4) := (blk_cell BK468.out 4).trans rfl
                                      have hcz48_5 : wr.cell? ⟨gb468, 5, none⟩ = some (.string a0_5) := (blk_cell BK468.out 5).trans rfl
                                      have hcz48_6 : wr.cell? ⟨gb468, 6, none⟩ = some (.bool a0_6) := (blk_cell BK468.out 6).trans rfl
                                      have hcz48_7 : wr.cell? ⟨gb468, 7, none⟩ = some (.bool a0_7) := (blk_cell BK468.out 7).trans rfl
                                      have hcz48_8 : wr.cell? ⟨gb468, 8, none⟩ = some (.int .i64 a0_8) := (blk_cell BK468.out 8).trans rfl
                                      have hcz48_9 : wr.cell? ⟨gb468, 9, none⟩ = some (.bool a0_9) := (blk_cell BK468.out 9).trans rfl
                                      have hcz48_10 : wr.cell? ⟨gb468, 10, none⟩ = some (.int .i64 a0_10) := (blk_cell BK468.out 10).trans rfl
                                      have hcz48_11 : wr.cell? ⟨gb468, 11, none⟩ = some (.slice A0_11 l0_11.length c0_11) := (blk_cell BK468.out 11).trans rfl
                                      have hcz48_12 : wr.cell? ⟨gb468, 12, none⟩ = some (.int .i64 a0_12) := (blk_cell BK468.out 12).trans rfl
                                      have hcz48_13 : wr.cell? ⟨gb468, 13, none⟩ = some (.int .i64 a0_13) := (blk_cell BK468.out 13).trans rfl
                                      have hcz48_14 : wr.cell? ⟨gb468, 14, none⟩ = some (.int .i64 a0_14) := (blk_cell BK468.out 14).trans rfl
                                      have hcz48_15 : wr.cell? ⟨gb468, 15, none⟩ = some (.int .i64 a0_15) := (blk_cell BK468.out 15).trans rfl
                                      have hcz48_16 : wr.cell? ⟨gb468, 16, none⟩ = some (.int .i64 a0_16) := (blk_cell BK468.out 16).trans rfl
                                      have hfz48_0 := blk_frozen BK468.out 0
                                      have hfz48_1 := blk_frozen BK468.out 1
                                      have hfz48_2 := blk_frozen BK468.out 2
                                      have hfz48_3 := blk_frozen BK468.out 3
                                      have hfz48_4 := blk_frozen BK468.out 4
                                      have hfz48_5 := blk_frozen BK468.out 5
                                      have hfz48_6 := blk_frozen BK468.out 6
                                      have hfz48_7 := blk_frozen BK468.out 7
                                      have hfz48_8 := blk_frozen BK468.out 8
                                      have hfz48_9 := blk_frozen BK468.out 9
                                      have hfz48_10 := blk_frozen BK468.out 10
                                      have hfz48_11 := blk_frozen BK468.out 11
                                      have hfz48_12 := blk_frozen BK468.out 12
                                      have hfz48_13 := blk_frozen BK468.out 13
                                      have hfz48_14 := blk_frozen BK468.out 14
                                      have hfz48_15 := blk_frozen BK468.out 15
                                      have hfz48_16 := blk_frozen BK468.out 16
                                      try go_wp2
                                      have n0_ := Aside0.mk (blk_drew BK468.out)
                                      have n1_ := Aside0.mk (below_drew1 HB.out)
                                      clear BK468
                                      clear HB
                                      have BK468 := n0_
                                      have HB := n1_
                                      clear n0_ n1_
                                      have p477 : 0 ≤ (x4_5 : Int) := of_decide_eq_true (by first | (with_reducible assumption) | assumption)
                                      have q477 : x4_5 < (l0_11.length : Int) := of_decide_eq_true (by first | (with_reducible assumption) | assumption)
                                      obtain ⟨ad477, e477, hx477_0, hx477_1⟩ := at_T52 HR0_11.out x4_5 p477 q477
                                      have hw477_1 := hx477_1
                                      have hw477_0 := hx477_0
                                      cases e477
                                      replace hx477_0 := (HB.out.cell (World.block_lt_of_cell? w _ hx477_0)).trans hx477_0
                                      replace hx477_1 := (HB.out.cell (World.block_lt_of_cell? w _ hx477_1)).trans hx477_1
                                      replace p477 := eq_true p477
                                      replace q477 := eq_true q477
                                      have p479 : 0 ≤ (x4_5 : Int) := of_decide_eq_true (by first | (with_reducible assumption) | assumption)
                                      have q479 : x4_5 < (l0_11.length : Int) := of_decide_eq_true (by first | (with_reducible assumption) | assumption)
                                      obtain ⟨ad479, e479, hx479_0, hx479_1⟩ := at_T52 HR0_11.out x4_5 p479 q479
                                      have hw479_1 := hx479_1
                                      have hw479_0 := hx479_0
                                      obtain rfl : ad477 = ad479 := (by injection e479)
                                      replace hx479_0 := (HB.out.cell (World.block_lt_of_cell? w _ hx479_0)).trans hx479_0
                                      replace hx479_1 := (HB.out.cell (World.block_lt_of_cell? w _ hx479_1)).trans hx479_1
                                      replace p479 := eq_true p479
                                      replace q479 := eq_true q479
                                      refine start_ (n := 20) (S := fun w' => w'.cell? ⟨gb468, 0, none⟩ = some (.int .i64 a0_0) ∧ w'.cell? ⟨gb468, 1, none⟩ = some (.int .i64 a0_1) ∧ w'.cell? ⟨gb468, 2, none⟩ = some (.int .i64 a0_2) ∧ w'.cell? ⟨gb468, 3, none⟩ = some (.int .i64 a0_3) ∧ w'.cell? ⟨gb468, 4, none⟩ = some (.string a0_4) ∧ w'.cell? ⟨gb468, 5, none⟩ = some (.string a0_5) ∧ w'.cell? ⟨gb468, 6, none⟩ = some (.bool a0_6) ∧ w'.cell? ⟨gb468, 7, none⟩ = some (.bool a0_7) ∧ w'.cell? ⟨gb468, 8, none⟩ = some (.int .i64 a0_8) ∧ w'.cell? ⟨gb468, 9, none⟩ = some (.bool a0_9) ∧ w'.cell? ⟨gb468, 10, none⟩ = some (.int .i64 a0_10) ∧ w'.cell? ⟨gb468, 11, none⟩ = some (.slice (some ad477) l0_11.length c0_11) ∧ w'.cell? ⟨gb468, 12, none⟩ = some (.int .i64 a0_12) ∧ w'.cell? ⟨gb468, 13, none⟩ = some (.int .i64 a0_13) ∧ w'.cell? ⟨gb468, 14, none⟩ = some (.int .i64 a0_14) ∧ w'.cell? ⟨gb468, 15, none⟩ = some (.int .i64 a0_15) ∧ w'.cell? ⟨gb468, 16, none⟩ = some (.int .i64 a0_16) ∧ w'.cell? (ad477.add ((x4_5).toNat * 2)) = some (.string ((rd_T52 l0_11 x4_5).f0)) ∧ w'.cell? ⟨(ad477.add ((x4_5).toNat * 2)).block, (ad477.add ((x4_5).toNat * 2)).off + 1, none⟩ = some (.string ((rd_T52 l0_11 x4_5).f1)) ∧ w'.cell? (ad477.add ((x4_5).toNat * 2)) = some (.string ((rd_T52 l0_11 x4_5).f0)) ∧ w'.cell? ⟨(ad477.add ((x4_5).toNat * 2)).block, (ad477.add ((x4_5).toNat * 2)).off + 1, none⟩ = some (.string ((rd_T52 l0_11 x4_5).f1))) (ds := []) #[false, false, false, false, false, false, false, false, false, false, false, false, false, false, false, false, false, false, false, false] (by kernel_rfl) rfl rfl ⟨(blk_cell BK468.out 0).trans rfl, (blk_cell BK468.out 1).trans rfl, (blk_cell BK468.out 2).trans rfl, (blk_cell BK468.out 3).trans rfl, (blk_cell BK468.out 4).trans rfl, (blk_cell BK468.out 5).trans rfl, (blk_cell BK468.out 6).trans rfl, (blk_cell BK468.out 7).trans rfl, (blk_cell BK468.out 8).trans rfl, (blk_cell BK468.out 9).trans rfl, (blk_cell BK468.out 10).trans rfl, (blk_cell BK468.out 11).trans rfl, (blk_cell BK468.out 12).trans rfl, (blk_cell BK468.out 13).trans rfl, (blk_cell BK468.out 14).trans rfl, (blk_cell BK468.out 15).trans rfl, (blk_cell BK468.out 16).trans rfl, ((HB.out.cell (World.block_lt_of_cell? w _ hw477_0)).trans hw477_0), ((HB.out.cell (World.block_lt_of_cell? w _ hw477_1)).trans hw477_1), ((HB.out.cell (World.block_lt_of_cell? w _ hw479_0)).trans hw479_0), ((HB.out.cell (World.block_lt_of_cell? w _ hw479_1)).trans hw479_1)⟩ (fun hHeld => ?_); refine with_tabW gharrylaw25_event.tab15 gharrylaw25_event.bits15 (fun HT_ HW_ => ?_)
                                      generalize wr.drew = w49 at BK468 HB hx477_0 hx477_1 hx479_0 hx479_1 hHeld ⊢
                                      refine pure_ (i := 0) (N := some 56) (v := ?_) (a' := ?_) #[true, false, false, false, false, false, false, false, false, false, false, false, false, false, false, false, false, false, false, false] rfl rfl (any_of HT_.out (by kernel_rfl)) (fun _ _ _ h => h) (Or.inl ⟨by rfl, ?_⟩) ?_ ?_
                                      rotate_left
                                      · intro w'
                                        go_simp
                                        with_reducible rfl
                                      rotate_left
                                      · simp only [Act.put, List.setIfInBounds_toArray, List.set_cons_zero, List.set_cons_succ, i64_w, i32_w]
                                        rfl
                                      refine pure_ (i := 1) (N := some 57) (v := ?_) (a' := ?_) #[true, true, false, false, false, false, false, false, false, false, false, false, false, false, false, false, false, false, false, false] rfl rfl (any_of HT_.out (by kernel_rfl)) (fun _ _ _ h => h) (Or.inl ⟨by rfl, ?_⟩) ?_ ?_
                                      rotate_left
                                      · intro w'
                                        go_simp
                                        with_reducible rfl
                                      rotate_left
                                      · simp only [Act.put, List.setIfInBounds_toArray, List.set_cons_zero, List.set_cons_succ, i64_w, i32_w]
                                        rfl
                                      refine pure_ (i := 2) (N := some 58) (v := ?_) (a' := ?_) #[true, true, true, false, false, false, false, false, false, false, false, false, false, false, false, false, false, false, false, false] rfl rfl (any_of HT_.out (by kernel_rfl)) (fun _ _ _ h => h) (Or.inl ⟨by rfl, ?_⟩) ?_ ?_
                                      rotate_left
                                      · intro w'
                                        go_simp
                                        with_reducible rfl
                                      rotate_left
                                      · simp only [Act.put, List.setIfInBounds_toArray, List.set_cons_zero, List.set_cons_succ, i64_w, i32_w]
                                        rfl
                                      refine pure_ (i := 4) (N := some 60) (v := ?_) (a' := ?_) #[true, true, true, false, true, false, false, false, false, false, false, false, false, false, false, false, false, false, false, false] rfl rfl (any_of HT_.out (by kernel_rfl)) (fun _ _ _ h => h) (Or.inl ⟨by rfl, ?_⟩) ?_ ?_
                                      rotate_left
                                      · intro w'
                                        go_simp
                                        with_reducible rfl
                                      rotate_left
                                      · simp only [Act.put, List.setIfInBounds_toArray, List.set_cons_zero, List.set_cons_succ, i64_w, i32_w]
                                        rfl
                                      refine pure_ (i := 11) (N := some 67) (v := ?_) (a' := ?_) #[true, true, true, false, true, false, false, false, false, false, false, true, false, false, false, false, false, false, false, false] rfl rfl (any_of HT_.out (by kernel_rfl)) (fun _ _ _ h => h) (Or.inl ⟨by rfl, ?_⟩) ?_ ?_
                                      rotate_left
                                      · intro w'
                                        go_simp
                                        with_reducible rfl
                                      rotate_left
                                      · simp only [Act.put, List.setIfInBounds_toArray, List.set_cons_zero, List.set_cons_succ, i64_w, i32_w]
                                        rfl
                                      refine pure_ (i := 13) (N := some 69) (v := ?_) (a' := ?_) #[true, true, true, false, true, false, false, false, false, false, false, true, false, true, false, false, false, false, false, false] rfl rfl (any_of HT_.out (by kernel_rfl)) (fun _ _ _ h => h) (Or.inl ⟨by rfl, ?_⟩) ?_ ?_
                                      rotate_left
                                      · intro w'
                                        go_simp
                                        with_reducible rfl
                                      rotate_left
                                      · simp only [Act.put, List.setIfInBounds_toArray, List.set_cons_zero, List.set_cons_succ, i64_w, i32_w]
                                        rfl
                                      refine take_ (i := 3) (N := some 59) (v := ?_) (a' := ?_) #[true, true, true, true, true, false, false, false, false, false, false, true, false, true, false, false, false, false, false, false] rfl rfl (take_ofW HT_.out HW_.out (by kernel_rfl)) (fun _ _ _ h => h) (Or.inl ⟨by rfl, ?_⟩) hHeld ?_ ?_
                                      rotate_left
                                      · rintro w' ⟨s0, s1, s2, s3, s4, s5, s6, s7, s8, s9, s10, s11, s12, s13, s14, s15, s16, s17, s18, s19, s20⟩
                                        go_simp
                                        with_reducible rfl
                                      rotate_left
                                      · simp only [Act.put, List.setIfInBounds_toArray, List.set_cons_zero, List.set_cons_succ, i64_w, i32_w]
                                        rfl
                                      refine pure_ (i := 5) (N := some 61) (v := ?_) (a' := ?_) #[true, true, true, true, true, true, false, false, false, false, false, true, false, true, false, false, false, false, false, false] rfl rfl (any_of HT_.out (by kernel_rfl)) (fun _ _ _ h => h) (Or.inl ⟨by rfl, ?_⟩) ?_ ?_
                                      rotate_left
                                      · intro w'
                                        go_simp
                                        with_reducible rfl
                                      rotate_left
                                      · simp only [Act.put, List.setIfInBounds_toArray, List.set_cons_zero, List.set_cons_succ, i64_w, i32_w]
                                        rfl
                                      refine pure_ (i := 6) (N := some 62) (v := ?_) (a' := ?_) #[true, true, true, true, true, true, true, false, false, false, false, true, false, true, false, false, false, false, false, false] rfl rfl (any_of HT_.out (by kernel_rfl)) (fun _ _ _ h => h) (Or.inl ⟨by rfl, ?_⟩) ?_ ?_
                                      rotate_left
                                      · intro w'
                                        go_simp
                                        with_reducible rfl
                                      rotate_left
                                      · simp only [Act.put, List.setIfInBounds_toArray, List.set_cons_zero, List.set_cons_succ, i64_w, i32_w]
                                        rfl
                                      refine take_ (i := 7) (N := some 63) (v := ?_) (a' := ?_) #[true, true, true, true, true, true, true, true, false, false, false, true, false, true, false, false, false, false, false, false] rfl rfl (take_ofW HT_.out HW_.out (by kernel_rfl)) (fun _ _ _ h => h) (Or.inl ⟨by rfl, ?_⟩) hHeld ?_ ?_
                                      rotate_left
                                      · rintro w' ⟨s0, s1, s2, s3, s4, s5, s6, s7, s8, s9, s10, s11, s12, s13, s14, s15, s16, s17, s18, s19, s20⟩
                                        go_simp
                                        with_reducible rfl
                                      rotate_left
                                      · simp only [Act.put, List.setIfInBounds_toArray, List.set_cons_zero, List.set_cons_succ, i64_w, i32_w]
                                        rfl
                                      refine take_ (i := 12) (N := some 68) (v := ?_) (a' := ?_) #[true, true, true, true, true, true, true, true, false, false, false, true, true, true, false, false, false, false, false, false] rfl rfl (take_ofW HT_.out HW_.out (by kernel_rfl)) (fun _ _ _ h => h) (Or.inl ⟨by rfl, ?_⟩) hHeld ?_ ?_
                                      rotate_left
                                      · rintro w' ⟨s0, s1, s2, s3, s4, s5, s6, s7, s8, s9, s10, s11, s12, s13, s14, s15, s16, s17, s18, s19, s20⟩
                                        go_simp
                                        with_reducible rfl
                                      rotate_left
                                      · simp only [Act.put, List.setIfInBounds_toArray, List.set_cons_zero, List.set_cons_succ, i64_w, i32_w]
                                        rfl
                                      refine pure_ (i := 14) (N := some 70) (v := ?_) (a' := ?_) #[true, true, true, true, true, true, true, true, false, false, false, true, true, true, true, false, false, false, false, false] rfl rfl (any_of HT_.out (by kernel_rfl)) (fun _ _ _ h => h) (Or.inl ⟨by rfl, ?_⟩) ?_ ?_
                                      rotate_left
                                      · intro w'
                                        go_simp
                                        with_reducible rfl
                                      rotate_left
                                      · simp only [Act.put, List.setIfInBounds_toArray, List.set_cons_zero, List.set_cons_succ, i64_w, i32_w]
                                        rfl
                                      refine pure_ (i := 15) (N := some 71) (v := ?_) (a' := ?_) #[true, true, true, true, true, true, true, true, false, false, false, true, true, true, true, true, false, false, false, false] rfl rfl (any_of HT_.out (by kernel_rfl)) (fun _ _ _ h => h) (Or.inl ⟨by rfl, ?_⟩) ?_ ?_
                                      rotate_left
                                      · intro w'
                                        go_simp
                                        with_reducible rfl
                                      rotate_left
                                      · simp only [Act.put, List.setIfInBounds_toArray, List.set_cons_zero, List.set_cons_succ, i64_w, i32_w]
                                        rfl
                                      refine take_ (i := 16) (N := some 72) (v := ?_) (a' := ?_) #[true, true, true, true, true, true, true, true, false, false, false, true, true, true, true, true, true, false, false, false] rfl rfl (take_ofW HT_.out HW_.out (by kernel_rfl)) (fun _ _ _ h => h) (Or.inl ⟨by rfl, ?_⟩) hHeld ?_ ?_
                                      rotate_left
                                      · rintro w' ⟨s0, s1, s2, s3, s4, s5, s6, s7, s8, s9, s10, s11, s12, s13, s14, s15, s16, s17, s18, s19, s20⟩
                                        go_simp
                                        with_reducible rfl
                                      rotate_left
                                      · simp only [Act.put, List.setIfInBounds_toArray, List.set_cons_zero, List.set_cons_succ, i64_w, i32_w]
                                        rfl
                                      refine one_ (i := 8) (N := some 64) #[true, true, true, true, true, true, true, true, true, false, false, true, true, true, true, true, true, false, false, false] rfl rfl (one_of HT_.out (by kernel_rfl)) (by decide) (fun K hK => ?_)
                                      refine goes_ Tryd.func15 (by kernel_rfl) rfl #[.string ((rd_T52 l0_11 x4_5).f0)] (by rfl) rfl rfl (by (try simp only [List.map_toArray, List.map_cons, List.map_nil]); first | done | rfl | (simp only [List.length_drop, List.length_take]; rfl)) ?_
                                      with_reducible refine (gharryref25_Word.calls ((rd_T52 l0_11 x4_5).f0) t478 _ A43.out).mono ?_
                                      rintro e w' ⟨rfl, ⟨nd, rfl⟩⟩
                                      refine ⟨_, rfl, ?_⟩
                                      refine hK.out _ _ ⟨(blk_cell BK468.out 0).trans rfl, (blk_cell BK468.out 1).trans rfl, (blk_cell BK468.out 2).trans rfl, (blk_cell BK468.out 3).trans rfl, (blk_cell BK468.out 4).trans rfl, (blk_cell BK468.out 5).trans rfl, (blk_cell BK468.out 6).trans rfl, (blk_cell BK468.out 7).trans rfl, (blk_cell BK468.out 8).trans rfl, (blk_cell BK468.out 9).trans rfl, (blk_cell BK468.out 10).trans rfl, (blk_cell BK468.out 11).trans rfl, (blk_cell BK468.out 12).trans rfl, (blk_cell BK468.out 13).trans rfl, (blk_cell BK468.out 14).trans rfl, (blk_cell BK468.out 15).trans rfl, (blk_cell BK468.out 16).trans rfl, ((HB.out.cell (World.block_lt_of_cell? w _ hw477_0)).trans hw477_0), ((HB.out.cell (World.block_lt_of_cell? w _ hw477_1)).trans hw477_1), ((HB.out.cell (World.block_lt_of_cell? w _ hw479_0)).trans hw479_0), ((HB.out.cell (World.block_lt_of_cell? w _ hw479_1)).trans hw479_1)⟩ (fun hHeld => ?_)
                                      clear hK K
                                      refine norm_ (a' := ?_) ?_ ?_
                                      rotate_left
                                      · show Act.put _ (some 64) _ = _
                                        simp only [Act.put, List.setIfInBounds_toArray, List.set_cons_zero, List.set_cons_succ, i64_w, i32_w]
                                        rfl
                                      refine pure_ (i := 9) (N := some 65) (v := ?_) (a' := ?_) #[true, true, true, true, true, true, true, true, true, true, false, true, true, true, true, true, true, false, false, false] rfl rfl (any_of HT_.out (by kernel_rfl)) (fun _ _ _ h => h) (Or.inl ⟨by rfl, ?_⟩) ?_ ?_
                                      rotate_left
                                      · intro w'
                                        go_simp
                                        with_reducible rfl
                                      rotate_left
                                      · simp only [Act.put, List.setIfInBounds_toArray, List.set_cons_zero, List.set_cons_succ, i64_w, i32_w]
                                        rfl
                                      refine pure_ (i := 10) (N := some 66) (v := ?_) (a' := ?_) #[true, true, true, true, true, true, true, true, true, true, true, true, true, true, true, true, true, false, false, false] rfl rfl (any_of HT_.out (by kernel_rfl)) (fun _ _ _ h => h) (Or.inl ⟨by rfl, ?_⟩) ?_ ?_
                                      rotate_left
                                      · intro w'
                                        go_simp
                                        with_reducible rfl
                                      rotate_left
                                      · simp only [Act.put, List.setIfInBounds_toArray, List.set_cons_zero, List.set_cons_succ, i64_w, i32_w]
                                        rfl
                                      refine one_ (i := 17) (N := some 73) #[true, true, true, true, true, true, true, true, true, true, true, true, true, true, true, true, true, true, false, false] rfl rfl (one_of HT_.out (by kernel_rfl)) (by decide) (fun K hK => ?_)
                                      refine goes_ Tryd.func15 (by kernel_rfl) rfl #[.string ((rd_T52 l0_11 x4_5).f1)] (by rfl) rfl rfl (by (try simp only [List.map_toArray, List.map_cons, List.map_nil]); first | done | rfl | (simp only [List.length_drop, List.length_take]; rfl)) ?_
                                      with_reducible refine (gharryref25_Word.calls ((rd_T52 l0_11 x4_5).f1) t480 _ A46.out).mono ?_
                                      rintro e w' ⟨rfl, ⟨nd, rfl⟩⟩
                                      refine ⟨_, rfl, ?_⟩
                                      refine hK.out _ _ ⟨(blk_cell BK468.out 0).trans rfl, (blk_cell BK468.out 1).trans rfl, (blk_cell BK468.out 2).trans rfl, (blk_cell BK468.out 3).trans rfl, (blk_cell BK468.out 4).trans rfl, (blk_cell BK468.out 5).trans rfl, (blk_cell BK468.out 6).trans rfl, (blk_cell BK468.out 7).trans rfl, (blk_cell BK468.out 8).trans rfl, (blk_cell BK468.out 9).trans rfl, (blk_cell BK468.out 10).trans rfl, (blk_cell BK468.out 11).trans rfl, (blk_cell BK468.out 12).trans rfl, (blk_cell BK468.out 13).trans rfl, (blk_cell BK468.out 14).trans rfl, (blk_cell BK468.out 15).trans rfl, (blk_cell BK468.out 16).trans rfl, ((HB.out.cell (World.block_lt_of_cell? w _ hw477_0)).trans hw477_0), ((HB.out.cell (World.block_lt_of_cell? w _ hw477_1)).trans hw477_1), ((HB.out.cell (World.block_lt_of_cell? w _ hw479_0)).trans hw479_0), ((HB.out.cell (World.block_lt_of_cell? w _ hw479_1)).trans hw479_1)⟩ (fun hHeld => ?_)
                                      clear hK K
                                      refine norm_ (a' := ?_) ?_ ?_
                                      rotate_left
                                      · show Act.put _ (some 73) _ = _
                                        simp only [Act.put, List.setIfInBounds_toArray, List.set_cons_zero, List.set_cons_succ, i64_w, i32_w]
                                        rfl
                                      refine pure_ (i := 18) (N := some 74) (v := ?_) (a' := ?_) #[true, true, true, true, true, true, true, true, true, true, true, true, true, true, true, true, true, true, true, false] rfl rfl (any_of HT_.out (by kernel_rfl)) (fun _ _ _ h => h) (Or.inl ⟨by rfl, ?_⟩) ?_ ?_
                                      rotate_left
                                      · intro w'
                                        go_simp
                                        with_reducible rfl
                                      rotate_left
                                      · simp only [Act.put, List.setIfInBounds_toArray, List.set_cons_zero, List.set_cons_succ, i64_w, i32_w]
                                        rfl
                                      refine pure_ (i := 19) (N := some 3) (v := ?_) (a' := ?_) #[true, true, true, true, true, true, true, true, true, true, true, true, true, true, true, true, true, true, true, true] rfl rfl (any_of HT_.out (by kernel_rfl)) (fun _ _ _ h => h) (Or.inl ⟨by rfl, ?_⟩) ?_ ?_
                                      rotate_left
                                      · intro w'
                                        go_simp
                                        with_reducible rfl
                                      rotate_left
                                      · simp only [Act.put, List.setIfInBounds_toArray, List.set_cons_zero, List.set_cons_succ, i64_w, i32_w]
                                        rfl
                                      refine done_ (done_of HT_.out (by kernel_rfl)) ?_
                                      try go_wp2
                                      go_roundg k5
                                      case measure => have := HJ1.out; have := HJ6.out; have := HJ17.out; have := HJ31.out; have := HK5.out; omega
                                      case rel => exact ⟨((((x3_5 ++ (⟨#[32]⟩ : ByteArray)) ++ t478) ++ (⟨#[32]⟩ : ByteArray)) ++ t480), (wrap64 (x4_5 + 1)), (by first | rfl | (simp; done) | (simp [*]; done)), (by first | rfl | (simp; done) | (simp [*]; done)), H', ⟨by have := HJ1.out; have := HJ6.out; have := HJ17.out; have := HJ31.out; have := HK5.out; omega⟩, ⟨by (with_reducible repeat (first | refine blk_drewN ?_ _ | refine blk_drew ?_ | refine blk_alloc ?_ _)); exact BK468.out⟩, ⟨by repeat (first | (with_reducible first | exact HB.out | apply below_alloc | apply pw_below_drewN | apply below_drew1 | refine below_set ?_ GE468.out) | exact HB.out)⟩⟩
                                    · rw [if_neg c47] at H
                                      exact absurd H (by simp)
                                  · rw [if_neg c45] at H
                                    exact absurd H (by simp)
                                · rw [if_neg c44] at H
                                  exact absurd H (by simp)
                              · rw [if_neg c42] at H
                                exact absurd H (by simp)
                            · rw [if_neg c41] at H
                              exact absurd H (by simp)
                          · rw [if_neg c40] at H
                            have c40b0 : decide (x4_5 < (l0_11.length : Int)) = false := decide_eq_false c40
                            clear c40
                            obtain rfl := Option.some.inj H
                            have hcz50_0 : wr.cell? ⟨gb468, 0, none⟩ = some (.int .i64 a0_0) := (blk_cell BK468.out 0).trans rfl
                            have hcz50_1 : wr.cell? ⟨gb468, 1, none⟩ = some (.int .i64 a0_1) := (blk_cell BK468.out 1).trans rfl
                            have hcz50_2 : wr.cell? ⟨gb468, 2, none⟩ = some (.int .i64 a0_2) := (blk_cell BK468.out 2).trans rfl
                            have hcz50_3 : wr.cell? ⟨gb468, 3, none⟩ = some (.int .i64 a0_3) := (blk_cell BK468.out 3).trans rfl
                            have hcz50_4 : wr.cell? ⟨gb468, 4, none⟩ = some (.string a0_4) := (blk_cell BK468.out 4).trans rfl
                            have hcz50_5 : wr.cell? ⟨gb468, 5, none⟩ = some (.string a0_5) := (blk_cell BK468.out 5).trans rfl
                            have hcz50_6 : wr.cell? ⟨gb468, 6, none⟩ = some (.bool a0_6) := (blk_cell BK468.out 6).trans rfl
                            have hcz50_7 : wr.cell? ⟨gb468, 7, none⟩ = some (.bool a0_7) := (blk_cell BK468.out 7).trans rfl
                            have hcz50_8 : wr.cell? ⟨gb468, 8, none⟩ = some (.int .i64 a0_8) := (blk_cell BK468.out 8).trans rfl
                            have hcz50_9 : wr.cell? ⟨gb468, 9, none⟩ = some (.bool a0_9) := (blk_cell BK468.out 9).trans rfl
                            have hcz50_10 : wr.cell? ⟨gb468, 10, none⟩ = some (.int .i64 a0_10) := (blk_cell BK468.out 10).trans rfl
                            have hcz50_11 : wr.cell? ⟨gb468, 11, none⟩ = some (.slice A0_11 l0_11.length c0_11) := (blk_cell BK468.out 11).trans rfl
                            have hcz50_12 : wr.cell? ⟨gb468, 12, none⟩ = some (.int .i64 a0_12) := (blk_cell BK468.out 12).trans rfl
                            have hcz50_13 : wr.cell? ⟨gb468, 13, none⟩ = some (.int .i64 a0_13) := (blk_cell BK468.out 13).trans rfl
                            have hcz50_14 : wr.cell? ⟨gb468, 14, none⟩ = some (.int .i64 a0_14) := (blk_cell BK468.out 14).trans rfl
                            have hcz50_15 : wr.cell? ⟨gb468, 15, none⟩ = some (.int .i64 a0_15) := (blk_cell BK468.out 15).trans rfl
                            have hcz50_16 : wr.cell? ⟨gb468, 16, none⟩ = some (.int .i64 a0_16) := (blk_cell BK468.out 16).trans rfl
                            have hfz50_0 := blk_frozen BK468.out 0
                            have hfz50_1 := blk_frozen BK468.out 1
                            have hfz50_2 := blk_frozen BK468.out 2
                            have hfz50_3 := blk_frozen BK468.out 3
                            have hfz50_4 := blk_frozen BK468.out 4
                            have hfz50_5 := blk_frozen BK468.out 5
                            have hfz50_6 := blk_frozen BK468.out 6
                            have hfz50_7 := blk_frozen BK468.out 7
                            have hfz50_8 := blk_frozen BK468.out 8
                            have hfz50_9 := blk_frozen BK468.out 9
                            have hfz50_10 := blk_frozen BK468.out 10
                            have hfz50_11 := blk_frozen BK468.out 11
                            have hfz50_12 := blk_frozen BK468.out 12
                            have hfz50_13 := blk_frozen BK468.out 13
                            have hfz50_14 := blk_frozen BK468.out 14
                            have hfz50_15 := blk_frozen BK468.out 15
                            have hfz50_16 := blk_frozen BK468.out 16
                            go_wp2
                            go_ret
                            exact ⟨by first | rfl | (simp [errW_none, errW_some] <;> rfl) | (simp [*, errW_none, errW_some] <;> rfl), by repeat (first | (with_reducible first | exact HB.out | apply below_alloc | apply pw_below_drewN | apply below_drew1 | refine below_set ?_ GE468.out) | exact HB.out)⟩
            · rw [if_neg c17] at H
              exact absurd H (by simp)
          · rw [if_neg c15] at H
            exact absurd H (by simp)

end Go.Proofs.YtflbkgpmepfhlaaDoor.HSay
