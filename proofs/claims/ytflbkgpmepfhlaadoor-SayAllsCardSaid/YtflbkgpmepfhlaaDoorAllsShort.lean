/- SayAlls where there are at most twenty steps, with say.PrintAll: what they compute, and the walks. -/
import Derived.Test.YtflbkgpmepfhlaaDoorHookB
import Derived.Test.YtflbkgpmepfhlaaDoorFtypes
import Derived.Test.YtflbkgpmepfhlaaDoorFsayPrint
import Derived.Test.YtflbkgpmepfhlaaDoorFgharrylaw25awake
import Derived.Test.YtflbkgpmepfhlaaDoorFgharrylaw25few
import Derived.Test.YtflbkgpmepfhlaaDoorFgharryref25Print
import Derived.Test.YtflbkgpmepfhlaaDoorFgharryref25Clean
import Derived.Test.YtflbkgpmepfhlaaDoorFsayScript
namespace Go.Proofs.YtflbkgpmepfhlaaDoor.HSay
open Go.RowKit Go.Proofs.YtflbkgpmepfhlaaDoor.Hook Go.Proofs.YtflbkgpmepfhlaaDoorW.PrintWords Go.Proofs.YtflbkgpmepfhlaaDoorW.PrintLast Go.Proofs.YtflbkgpmepfhlaaDoorW.PrintMore
set_option linter.unusedVariables false
set_option linter.unusedSimpArgs false

/-- The lines of the steps, put behind what is there; the first step without a line ends it. -/
def allF : List S32 → ByteArray → Option (ByteArray × Int)
  | [], acc => some (acc, 0)
  | a :: l, acc => (say_Print.f 10 a.f0 a.f1 a.f2 a.f3 a.f4 a.f5 a.f6 a.f7).bind fun p => if p.2 = 0 then (if acc.size + (p.1.size + 1) ≤ 1000000 then allF l (acc ++ (p.1 ++ ⟨#[10]⟩)) else none) else some (⟨#[]⟩, p.2)
def say_PrintAll.f (l0 : List S32) : Option (ByteArray × Int) := allF l0 ⟨#[]⟩

theorem writeString (B b : Nat) (bs : List Value) (s : ByteArray) (w : World) (h : Lib.IsBuilder 60 5 B b bs w) (hlen : bs.length + s.size ≤ 140737488355328) (hBw : B ≤ w.heap.size) :
    Calls Tryd.prog 50 #[.pointer (some ⟨b, 0, none⟩), .string s] w fun e w' => e = .returned (.tuple #[.int .i64 s.size, .nilIface]) ∧ Lib.IsBuilder 60 5 B b (bs ++ Lib.strCells s) w' ∧ Below B w w' :=
  (LayB.WriteString B b bs s w h hlen hBw).mono fun _ _ ⟨h1, h2, h3⟩ => ⟨h1, .inr h2, h3⟩

theorem builder_call {B b : Nat} {bs : List Value} {w w' : World} (h : Lib.IsBuilder 60 5 B b bs w) (hb : Below w.heap.size w w') : Lib.IsBuilder 60 5 B b bs w' :=
  isBuilder_old h (fun k hk => hb.block k hk)

set_option maxHeartbeats 4000000 in
set_option maxRecDepth 100000 in
theorem say_PrintAll.calls (A0 : Option Addr) (c0 : Nat) (l0 : List S32) (r1 : ByteArray) (r2 : Int) (w : World) (hr0 : Kd.C k32 w A0 l0.length l0) (hc0 : l0.length ≤ c0) (h : say_PrintAll.f l0 = some (r1, r2)) :
    Calls Tryd.prog 29 #[.slice A0 l0.length c0] w fun e w' => e = .returned (.tuple #[.string r1, .int .i64 r2]) ∧ Below w.heap.size w w' := by
  have HI := Aside0.mk (fresh_builder w)
  have HR := Aside0.mk hr0
  have HH := Aside0.mk h
  have hu32 := Tryd.underlying32
  have hlen := hr0.2.1
  clear hr0 hc0 h
  go_enter Tryd.func29, Tryd.ntmps29
  go_wp2_with fail
  go_loopw [11] (fun v wr => ∃ (j : Int) (acc : ByteArray), 0 ≤ j ∧ j ≤ (l0.length : Int) ∧ v = .int .i64 j ∧ Aside0 (allF (l0.drop j.toNat) acc = some (r1, r2)) ∧ acc.size ≤ 1000000 ∧ Aside0 (Lib.IsBuilder 60 5 w.heap.size w.heap.size (Lib.byteCells acc.data.toList) wr) ∧ Aside0 (Below w.heap.size w wr)) (fun v _ => l0.length - (intOf v).toNat)
  case atStart => exact ⟨0, ⟨#[]⟩, by omega, by omega, rfl, HH, by decide, ⟨isBuilder_old HI.out (fun _ _ => rfl)⟩, ⟨by repeat (first | exact Below.refl _ _ | apply below_alloc | apply pw_below_drewN | apply below_drew1)⟩⟩
  case round =>
    obtain ⟨j, acc, hj0, hj, rfl, HA, hacc, HI2, HB⟩ := hrel
    by_cases hlt : j < (l0.length : Int)
    · obtain ⟨ad, e1, hx0, hx1, hx2, hx3, hx4, hx5, hx6, hx7⟩ := at_T32 HR.out j hj0 hlt
      cases e1
      replace hx0 := (HB.out.cell (World.block_lt_of_cell? w _ hx0)).trans hx0
      replace hx1 := (HB.out.cell (World.block_lt_of_cell? w _ hx1)).trans hx1
      replace hx2 := (HB.out.cell (World.block_lt_of_cell? w _ hx2)).trans hx2
      replace hx3 := (HB.out.cell (World.block_lt_of_cell? w _ hx3)).trans hx3
      replace hx4 := (HB.out.cell (World.block_lt_of_cell? w _ hx4)).trans hx4
      replace hx5 := (HB.out.cell (World.block_lt_of_cell? w _ hx5)).trans hx5
      replace hx6 := (HB.out.cell (World.block_lt_of_cell? w _ hx6)).trans hx6
      replace hx7 := (HB.out.cell (World.block_lt_of_cell? w _ hx7)).trans hx7
      have hd : l0.drop j.toNat = rd_T32 l0 j :: l0.drop (j + 1).toNat := by
        have hjl : j.toNat < l0.length := by omega
        rw [List.drop_eq_getElem_cons hjl, show (j + 1).toNat = j.toNat + 1 from by omega]
        congr 1
        unfold rd_T32
        rw [List.getD_eq_getElem?_getD, List.getElem?_eq_getElem hjl]
        rfl
      have H := HA.out
      rw [hd, allF] at H
      replace H := Option.bind_eq_some_iff.mp H
      obtain ⟨⟨s, e⟩, hP, HN0⟩ := H
      have HP := Aside0.mk hP
      have HN := Aside0.mk HN0
      clear hP HN0 hd HA
      have b0 : decide (j < (l0.length : Int)) = true := decide_eq_true hlt
      generalize rd_T32 l0 j = x at *
      go_wp2_with fail
      refine (say_Print.calls 10 x.f0 x.f1 x.f2 x.f3 x.f4 x.f5 x.f6 x.f7 s e _ HP.out).mono ?_
      rintro e' w4 ⟨rfl, hb4⟩
      have HI4 := Aside0.mk (builder_call (isBuilder_old HI2.out (fun k hk => Below.heap_alloc _ _ k hk)) hb4)
      have HB4 := Aside0.mk (below_step (below_alloc HB.out _) hb4)
      clear hb4
      by_cases he : e = 0
      · subst he
        replace HN : Aside0 ((if acc.size + (s.size + 1) ≤ 1000000 then allF (l0.drop (j + 1).toNat) (acc ++ (s ++ ⟨#[10]⟩)) else none) = some (r1, r2)) := ⟨HN.out⟩
        by_cases hs : acc.size + (s.size + 1) ≤ 1000000
        · have hsz : (s ++ (⟨#[10]⟩ : ByteArray)).size = s.size + 1 := by rw [ByteArray.size_append]; rfl
          have hq : s.size + 1 ≤ 1000000 := by omega
          have hw : wrap64 (j + 1) = j + 1 := by unfold wrap64; omega
          go_wp2_with fail
          refine (writeString _ _ _ (s ++ (⟨#[10]⟩ : ByteArray)) w4 HI4.out ?l1 HB4.out.size).mono ?_
          case l1 => rw [Lib.byteCells_length, hsz]; have : acc.data.toList.length = acc.size := by cases acc; simp [ByteArray.size]
                     omega
          rintro e' w5 ⟨rfl, hI5, hb5⟩
          go_wp2_with fail
          go_roundw
          case rel =>
            refine ⟨j + 1, acc ++ (s ++ ⟨#[10]⟩), by omega, by omega, rfl, ⟨by rw [← HN.out, if_pos hs]⟩, by rw [ByteArray.size_append, hsz]; omega, ⟨?_⟩, ⟨HB4.out.trans hb5⟩⟩
            have hc : Lib.byteCells (acc ++ (s ++ (⟨#[10]⟩ : ByteArray))).data.toList = Lib.byteCells acc.data.toList ++ Lib.strCells (s ++ ⟨#[10]⟩) := by
              rw [Lib.strCells_eq, ← Lib.byteCells_append]
              congr 1
            rw [hc]
            exact hI5
          case measure => simp [intOf]; omega
        · exact absurd HN.out (by rw [if_neg hs]; simp)
      · have he1 : (e != 0) = true := by simpa using he
        have hr := HN.out
        simp only [if_neg he] at hr
        obtain ⟨rfl, rfl⟩ : r1 = ⟨#[]⟩ ∧ r2 = e := by cases hr; exact ⟨rfl, rfl⟩
        go_wp2_with fail
        go_ret2
        exact ⟨rfl, HB4.out⟩
    · have hje : j.toNat = l0.length := by omega
      have hr := HA.out
      rw [hje, List.drop_length, allF] at hr
      obtain ⟨rfl, rfl⟩ : r1 = acc ∧ r2 = 0 := by cases hr; exact ⟨rfl, rfl⟩
      have b0 : decide (j < (l0.length : Int)) = false := decide_eq_false hlt
      clear hr hje
      go_wp2_with fail
      refine (Tryd.Builder_String_any _ _ r1.data.toList wr HI2.out HB.out.size).mono ?_
      rintro e w3 ⟨rfl, hb3⟩
      go_wp2_with fail
      go_ret2
      exact ⟨rfl, HB.out.trans hb3⟩
end Go.Proofs.YtflbkgpmepfhlaaDoor.HSay
namespace Go.Proofs.YtflbkgpmepfhlaaDoor.HSay
open Go.RowKit Go.Proofs.YtflbkgpmepfhlaaDoor.Hook Go.Proofs.YtflbkgpmepfhlaaDoorW.PrintWords Go.Proofs.YtflbkgpmepfhlaaDoorW.PrintLast Go.Proofs.YtflbkgpmepfhlaaDoorW.PrintMore
attribute [local go_sem] max2_int min2_int max_two min_two max_three min_three max_four min_four
set_option linter.unusedVariables false
set_option linter.unusedSimpArgs false
attribute [local go_sem high] eqA32
/-! ### gharrylaw25_SayAlls: function 10 -/
mutual
def gharrylaw25_SayAlls.l0 : Nat → List (S32) → ByteArray → Int → Int → Option (Bool)
  | 0, _, _, _, _ => none
  | k + 1, x0, x3, x4, x5 => if x5 < (x0.length : Int) then (gharrylaw25_SayAlls.j1 k x0 x3 x4 x5 (x4 == 0)) else (gharrylaw25_SayAlls.j1 k x0 x3 x4 x5 false)
def gharrylaw25_SayAlls.j1 : Nat → List (S32) → ByteArray → Int → Int → Bool → Option (Bool)
  | 0, _, _, _, _, _ => none
  | k + 1, x0, x3, x4, x5, x28 => if x28 = true then (if 0 ≤ x5 then (if x5 < (x0.length : Int) then ((gharrylaw25_few.f ((rd_T32 x0 x5).f0) ((rd_T32 x0 x5).f1) ((rd_T32 x0 x5).f2) ((rd_T32 x0 x5).f3) ((rd_T32 x0 x5).f4) ((rd_T32 x0 x5).f5) ((rd_T32 x0 x5).f6) ((rd_T32 x0 x5).f7)).bind fun bt165 => ((gharryref25_Print.f k bt165.1 bt165.2.1 bt165.2.2.1 bt165.2.2.2.1 bt165.2.2.2.2.1 bt165.2.2.2.2.2.1 bt165.2.2.2.2.2.2.1 bt165.2.2.2.2.2.2.2).bind fun bt173 => (if x3.size + bt173.1.size ≤ 9223372036854775807 then (if (x3 ++ bt173.1).size + 1 ≤ 9223372036854775807 then (gharrylaw25_SayAlls.l0 k x0 ((x3 ++ bt173.1) ++ (⟨#[10]⟩ : ByteArray)) bt173.2 (wrap64 (x5 + 1))) else (none)) else (none)))) else (none)) else (none)) else (gharrylaw25_SayAlls.l1 k x0 x3 x4 ([] : List (S32)) 0)
def gharrylaw25_SayAlls.l1 : Nat → List (S32) → ByteArray → Int → List (S32) → Int → Option (Bool)
  | 0, _, _, _, _, _ => none
  | k + 1, x0, x3, x4, x8, x9 => if x9 < (x0.length : Int) then (if 0 ≤ x9 then ((gharrylaw25_few.f ((rd_T32 x0 x9).f0) ((rd_T32 x0 x9).f1) ((rd_T32 x0 x9).f2) ((rd_T32 x0 x9).f3) ((rd_T32 x0 x9).f4) ((rd_T32 x0 x9).f5) ((rd_T32 x0 x9).f6) ((rd_T32 x0 x9).f7)).bind fun bt176 => (if x8.length < 1759218604441 then (gharrylaw25_SayAlls.l1 k x0 x3 x4 (x8 ++ [(⟨bt176.1, bt176.2.1, bt176.2.2.1, bt176.2.2.2.1, bt176.2.2.2.2.1, bt176.2.2.2.2.2.1, bt176.2.2.2.2.2.2.1, bt176.2.2.2.2.2.2.2⟩ : S32)]) (wrap64 (x9 + 1))) else (none))) else (none)) else ((say_PrintAll.f x8).bind fun bt187 => (if x4 = 0 then ((say_Script.f k bt187.1).bind fun bt190 => (if bt187.1.toList = x3.toList then (if bt187.2 = 0 then (if bt190.2.2 = 0 then (gharrylaw25_SayAlls.j3 k x8 bt190.1 ((bt190.1.length : Int) != (x8.length : Int))) else (gharrylaw25_SayAlls.j3 k x8 bt190.1 true)) else (gharrylaw25_SayAlls.j3 k x8 bt190.1 true)) else (gharrylaw25_SayAlls.j3 k x8 bt190.1 true))) else (if bt187.1.toList = ([] : List UInt8) then (if bt187.2 = x4 then ((gharrylaw25_awake.f).bind fun t189 => (some t189)) else (some false)) else (some false))))
def gharrylaw25_SayAlls.j3 : Nat → List (S32) → List (S32) → Bool → Option (Bool)
  | 0, _, _, _ => none
  | k + 1, x8, x12, x99 => if x99 = true then (some false) else (gharrylaw25_SayAlls.l2 k x8 x12 0)
def gharrylaw25_SayAlls.l2 : Nat → List (S32) → List (S32) → Int → Option (Bool)
  | 0, _, _, _ => none
  | k + 1, x8, x12, x15 => if x15 < (x12.length : Int) then (if 0 ≤ x15 then (if x15 < (x8.length : Int) then ((gharryref25_Clean.f k ((rd_T32 x8 x15).f0) ((rd_T32 x8 x15).f1) ((rd_T32 x8 x15).f2) ((rd_T32 x8 x15).f3) ((rd_T32 x8 x15).f4) ((rd_T32 x8 x15).f5) ((rd_T32 x8 x15).f6) ((rd_T32 x8 x15).f7)).bind fun bt197 => (if (!(((rd_T32 x12 x15).f0) == bt197.1) || (!(((rd_T32 x12 x15).f1) == bt197.2.1) || (!(((rd_T32 x12 x15).f2) == bt197.2.2.1) || (!(((rd_T32 x12 x15).f3) == bt197.2.2.2.1) || (!(((rd_T32 x12 x15).f4) == bt197.2.2.2.2.1) || (!((((rd_T32 x12 x15).f5).toList) == bt197.2.2.2.2.2.1.toList) || (!((((rd_T32 x12 x15).f6).toList) == bt197.2.2.2.2.2.2.1.toList) || (!(((rd_T32 x12 x15).f7) == bt197.2.2.2.2.2.2.2))))))))) = true then (some false) else (gharrylaw25_SayAlls.l2 k x8 x12 (wrap64 (x15 + 1))))) else (none)) else (none)) else ((gharrylaw25_awake.f).bind fun t205 => (some t205))
end
def gharrylaw25_SayAlls.f (k : Nat) (l0 : List (S32)) : Option (Bool) := gharrylaw25_SayAlls.l0 k l0 (⟨#[]⟩ : ByteArray) 0 0
theorem gharrylaw25_SayAlls.mono_l : ∀ k, (∀ y0 y1 y2 y3, LeO (gharrylaw25_SayAlls.l0 k y0 y1 y2 y3) (gharrylaw25_SayAlls.l0 (k + 1) y0 y1 y2 y3)) ∧ (∀ y0 y1 y2 y3 y4, LeO (gharrylaw25_SayAlls.j1 k y0 y1 y2 y3 y4) (gharrylaw25_SayAlls.j1 (k + 1) y0 y1 y2 y3 y4)) ∧ (∀ y0 y1 y2 y3 y4, LeO (gharrylaw25_SayAlls.l1 k y0 y1 y2 y3 y4) (gharrylaw25_SayAlls.l1 (k + 1) y0 y1 y2 y3 y4)) ∧ (∀ y0 y1 y2, LeO (gharrylaw25_SayAlls.j3 k y0 y1 y2) (gharrylaw25_SayAlls.j3 (k + 1) y0 y1 y2)) ∧ (∀ y0 y1 y2, LeO (gharrylaw25_SayAlls.l2 k y0 y1 y2) (gharrylaw25_SayAlls.l2 (k + 1) y0 y1 y2))
  | 0 => ⟨fun _ _ _ _ r h => by simp [gharrylaw25_SayAlls.l0] at h, fun _ _ _ _ _ r h => by simp [gharrylaw25_SayAlls.j1] at h, fun _ _ _ _ _ r h => by simp [gharrylaw25_SayAlls.l1] at h, fun _ _ _ r h => by simp [gharrylaw25_SayAlls.j3] at h, fun _ _ _ r h => by simp [gharrylaw25_SayAlls.l2] at h⟩
  | k + 1 => by
    obtain ⟨ih0, ih1, ih2, ih3, ih4⟩ := gharrylaw25_SayAlls.mono_l k
    refine ⟨?_, ?_, ?_, ?_, ?_⟩
    · intro y0 y1 y2 y3
      unfold gharrylaw25_SayAlls.l0
      repeat' first
      | (with_reducible exact ih0 _ _ _ _)
      | (with_reducible exact ih1 _ _ _ _ _)
      | (with_reducible exact ih2 _ _ _ _ _)
      | (with_reducible exact ih3 _ _ _)
      | (with_reducible exact ih4 _ _ _)
      | (with_reducible exact gharryref25_Clean.mono _ _ _ _ _ _ _ _ _)
      | (with_reducible exact gharryref25_Print.mono _ _ _ _ _ _ _ _ _)
      | (with_reducible exact say_Script.mono _ _)
      | (with_reducible exact LeO.refl _)
      | (with_reducible exact LeO.none _)
      | (with_reducible refine LeO.ite ?_ ?_)
      | (with_reducible refine LeO.bind ?_ (fun _ => ?_))
      | exact ih0 _ _ _ _
      | exact ih1 _ _ _ _ _
      | exact ih2 _ _ _ _ _
      | exact ih3 _ _ _
      | exact ih4 _ _ _
      | exact gharryref25_Clean.mono _ _ _ _ _ _ _ _ _
      | exact gharryref25_Print.mono _ _ _ _ _ _ _ _ _
      | exact say_Script.mono _ _
      | exact LeO.none _
      | refine LeO.ite ?_ ?_
      | refine LeO.bind ?_ (fun _ => ?_)
    · intro y0 y1 y2 y3 y4
      unfold gharrylaw25_SayAlls.j1
      repeat' first
      | (with_reducible exact ih0 _ _ _ _)
      | (with_reducible exact ih1 _ _ _ _ _)
      | (with_reducible exact ih2 _ _ _ _ _)
      | (with_reducible exact ih3 _ _ _)
      | (with_reducible exact ih4 _ _ _)
      | (with_reducible exact gharryref25_Clean.mono _ _ _ _ _ _ _ _ _)
      | (with_reducible exact gharryref25_Print.mono _ _ _ _ _ _ _ _ _)
      | (with_reducible exact say_Script.mono _ _)
      | (with_reducible exact LeO.refl _)
      | (with_reducible exact LeO.none _)
      | (with_reducible refine LeO.ite ?_ ?_)
      | (with_reducible refine LeO.bind ?_ (fun _ => ?_))
      | exact ih0 _ _ _ _
      | exact ih1 _ _ _ _ _
      | exact ih2 _ _ _ _ _
      | exact ih3 _ _ _
      | exact ih4 _ _ _
      | exact gharryref25_Clean.mono _ _ _ _ _ _ _ _ _
      | exact gharryref25_Print.mono _ _ _ _ _ _ _ _ _
      | exact say_Script.mono _ _
      | exact LeO.none _
      | refine LeO.ite ?_ ?_
      | refine LeO.bind ?_ (fun _ => ?_)
    · intro y0 y1 y2 y3 y4
      unfold gharrylaw25_SayAlls.l1
      repeat' first
      | (with_reducible exact ih0 _ _ _ _)
      | (with_reducible exact ih1 _ _ _ _ _)
      | (with_reducible exact ih2 _ _ _ _ _)
      | (with_reducible exact ih3 _ _ _)
      | (with_reducible exact ih4 _ _ _)
      | (with_reducible exact gharryref25_Clean.mono _ _ _ _ _ _ _ _ _)
      | (with_reducible exact gharryref25_Print.mono _ _ _ _ _ _ _ _ _)
      | (with_reducible exact say_Script.mono _ _)
      | (with_reducible exact LeO.refl _)
      | (with_reducible exact LeO.none _)
      | (with_reducible refine LeO.ite ?_ ?_)
      | (with_reducible refine LeO.bind ?_ (fun _ => ?_))
      | exact ih0 _ _ _ _
      | exact ih1 _ _ _ _ _
      | exact ih2 _ _ _ _ _
      | exact ih3 _ _ _
      | exact ih4 _ _ _
      | exact gharryref25_Clean.mono _ _ _ _ _ _ _ _ _
      | exact gharryref25_Print.mono _ _ _ _ _ _ _ _ _
      | exact say_Script.mono _ _
      | exact LeO.none _
      | refine LeO.ite ?_ ?_
      | refine LeO.bind ?_ (fun _ => ?_)
    · intro y0 y1 y2
      unfold gharrylaw25_SayAlls.j3
      repeat' first
      | (with_reducible exact ih0 _ _ _ _)
      | (with_reducible exact ih1 _ _ _ _ _)
      | (with_reducible exact ih2 _ _ _ _ _)
      | (with_reducible exact ih3 _ _ _)
      | (with_reducible exact ih4 _ _ _)
      | (with_reducible exact gharryref25_Clean.mono _ _ _ _ _ _ _ _ _)
      | (with_reducible exact gharryref25_Print.mono _ _ _ _ _ _ _ _ _)
      | (with_reducible exact say_Script.mono _ _)
      | (with_reducible exact LeO.refl _)
      | (with_reducible exact LeO.none _)
      | (with_reducible refine LeO.ite ?_ ?_)
      | (with_reducible refine LeO.bind ?_ (fun _ => ?_))
      | exact ih0 _ _ _ _
      | exact ih1 _ _ _ _ _
      | exact ih2 _ _ _ _ _
      | exact ih3 _ _ _
      | exact ih4 _ _ _
      | exact gharryref25_Clean.mono _ _ _ _ _ _ _ _ _
      | exact gharryref25_Print.mono _ _ _ _ _ _ _ _ _
      | exact say_Script.mono _ _
      | exact LeO.none _
      | refine LeO.ite ?_ ?_
      | refine LeO.bind ?_ (fun _ => ?_)
    · intro y0 y1 y2
      unfold gharrylaw25_SayAlls.l2
      repeat' first
      | (with_reducible exact ih0 _ _ _ _)
      | (with_reducible exact ih1 _ _ _ _ _)
      | (with_reducible exact ih2 _ _ _ _ _)
      | (with_reducible exact ih3 _ _ _)
      | (with_reducible exact ih4 _ _ _)
      | (with_reducible exact gharryref25_Clean.mono _ _ _ _ _ _ _ _ _)
      | (with_reducible exact gharryref25_Print.mono _ _ _ _ _ _ _ _ _)
      | (with_reducible exact say_Script.mono _ _)
      | (with_reducible exact LeO.refl _)
      | (with_reducible exact LeO.none _)
      | (with_reducible refine LeO.ite ?_ ?_)
      | (with_reducible refine LeO.bind ?_ (fun _ => ?_))
      | exact ih0 _ _ _ _
      | exact ih1 _ _ _ _ _
      | exact ih2 _ _ _ _ _
      | exact ih3 _ _ _
      | exact ih4 _ _ _
      | exact gharryref25_Clean.mono _ _ _ _ _ _ _ _ _
      | exact gharryref25_Print.mono _ _ _ _ _ _ _ _ _
      | exact say_Script.mono _ _
      | exact LeO.none _
      | refine LeO.ite ?_ ?_
      | refine LeO.bind ?_ (fun _ => ?_)
def gharrylaw25_SayAlls.T25 : Bool × List (List Nat × List Nat) := (true, [([], []), ([], []), ([0, 1], [0, 1]), ([2], [2]), ([], []), ([], []), ([4, 5], [4, 5]), ([6], [6]), ([7], [7]), ([3, 8], [3, 8])])
def gharrylaw25_SayAlls.B25 : List Nat := [0, 0, 3, 7, 0, 0, 48, 112, 240, 511]
theorem gharrylaw25_SayAlls.tab25 : rtab .any (opsOf Tryd.f10 25) = gharrylaw25_SayAlls.T25 := by kernel_rfl
theorem gharrylaw25_SayAlls.bits25 : waitsOk gharrylaw25_SayAlls.T25.2 gharrylaw25_SayAlls.B25 = true := by kernel_rfl
set_option maxHeartbeats 8000000 in
set_option maxRecDepth 100000 in
theorem gharrylaw25_SayAlls.short (k : Nat) (A0 : Option Addr) (c0 : Nat) (l0 : List (S32)) (r : Bool) (w : World) (hr0 : Kd.C k32 w A0 l0.length l0) (hc0 : l0.length ≤ c0) (h20 : l0.length ≤ 20) (h : gharrylaw25_SayAlls.f k l0 = some r) :
    Calls Tryd.prog 10 #[.slice A0 l0.length c0] w fun e w' => e = .returned (.bool r) ∧ Below w.heap.size w w' := by
  have hu32 := Tryd.underlying32
  have HR0 := Aside0.mk hr0
  have HC0 := Aside0.mk hc0
  clear hr0 hc0
  have HB := Aside0.mk (Below.refl w.heap.size w)
  have H : (gharrylaw25_SayAlls.l0 k l0 (⟨#[]⟩ : ByteArray) 0 0) = some r := h
  clear h
  have H' := Aside0.mk H
  clear H
  have h20b : decide ((20 : Int) < (l0.length : Int)) = false := decide_eq_false (by omega)
  have h20c : decide (20 < l0.length) = false := decide_eq_false (by omega)
  go_enter Tryd.func10, Tryd.ntmps10
  go_wp2
  go_loopg [3, 4, 5] k (fun kq v3 v4 v5 w' => ∃ (x3_1 : ByteArray) (x4_1 : Int) (x5_1 : Int), v3 = .string x3_1 ∧ v4 = .int .i64 x4_1 ∧ v5 = .int .i64 x5_1 ∧ Aside0 (gharrylaw25_SayAlls.l0 kq l0 x3_1 x4_1 x5_1 = some r) ∧ Aside0 (kq ≤ k) ∧ Aside0 (Below w.heap.size w w'))
  case atStart => exact ⟨((⟨#[]⟩ : ByteArray)), (0), (0), (by first | rfl | (simp; done) | (simp [*]; done)), (by first | rfl | (simp; done) | (simp [*]; done)), (by first | rfl | (simp; done) | (simp [*]; done)), H', ⟨Nat.le_refl _⟩, ⟨by repeat (first | (with_reducible first | exact HB.out | apply below_alloc | apply pw_below_drewN | apply below_drew1) | exact HB.out)⟩⟩
  case round =>
    clear H'
    (try clear c1)
    obtain ⟨x3_1, x4_1, x5_1, rfl, rfl, rfl, HA, HK1, HB⟩ := hrel
    cases gk with
    | zero => exact absurd HA.out (by simp [gharrylaw25_SayAlls.l0])
    | succ k1 =>
      have H := HA.out
      clear HA
      simp only [gharrylaw25_SayAlls.l0] at H
      have HC2 := Aside0.mk H
      clear H
      go_upto_region 6 with (fail)
      go_cut [28] (fun v28 wc => ∃ (kq : Nat) (x28_1 : Bool), v28 = .bool x28_1 ∧ Aside0 (gharrylaw25_SayAlls.j1 kq l0 x3_1 x4_1 x5_1 x28_1 = some r) ∧ Aside0 (kq ≤ k1) ∧ Aside0 (Below w.heap.size w wc))
      case first =>
        have H := HC2.out
        clear HC2
        by_cases c3 : x5_1 < (l0.length : Int)
        · rw [if_pos c3] at H
          have c3b0 : decide (x5_1 < (l0.length : Int)) = true := decide_eq_true c3
          clear c3
          (first | rw [c3b0] | (simp only [i64_w, i32_w]; rw [c3b0]) | skip)
          have H' := Aside0.mk H
          clear H
          go_wp2
          go_meet
          case rel => exact ⟨_, ((x4_1 == 0)), (by first | rfl | (simp; done) | (simp [*]; done)), H', ⟨by have := HK1.out; first | omega | exact Nat.le_refl _⟩, ⟨by repeat (first | (with_reducible first | exact HB.out | apply below_alloc | apply pw_below_drewN | apply below_drew1) | exact HB.out)⟩⟩
        · rw [if_neg c3] at H
          have c3b0 : decide (x5_1 < (l0.length : Int)) = false := decide_eq_false c3
          clear c3
          (first | rw [c3b0] | (simp only [i64_w, i32_w]; rw [c3b0]) | skip)
          have H' := Aside0.mk H
          clear H
          go_wp2
          go_meet
          case rel => exact ⟨_, (false), (by first | rfl | (simp; done) | (simp [*]; done)), H', ⟨by have := HK1.out; first | omega | exact Nat.le_refl _⟩, ⟨by repeat (first | (with_reducible first | exact HB.out | apply below_alloc | apply pw_below_drewN | apply below_drew1) | exact HB.out)⟩⟩
      case rest =>
        clear HC2
        (try clear c1); (try clear p2); (try clear c3); (try clear c3b0)
        obtain ⟨kq, x28_1, rfl, HA, HJ1, HB⟩ := hcut
        cases kq with
        | zero => exact absurd HA.out (by simp [gharrylaw25_SayAlls.j1])
        | succ kj1 =>
          have H := HA.out
          clear HA
          simp only [gharrylaw25_SayAlls.j1] at H
          by_cases c4 : x28_1 = true
          · subst c4
            have H1 : (if 0 ≤ x5_1 then (if x5_1 < (l0.length : Int) then ((gharrylaw25_few.f ((rd_T32 l0 x5_1).f0) ((rd_T32 l0 x5_1).f1) ((rd_T32 l0 x5_1).f2) ((rd_T32 l0 x5_1).f3) ((rd_T32 l0 x5_1).f4) ((rd_T32 l0 x5_1).f5) ((rd_T32 l0 x5_1).f6) ((rd_T32 l0 x5_1).f7)).bind fun bt165 => ((gharryref25_Print.f kj1 bt165.1 bt165.2.1 bt165.2.2.1 bt165.2.2.2.1 bt165.2.2.2.2.1 bt165.2.2.2.2.2.1 bt165.2.2.2.2.2.2.1 bt165.2.2.2.2.2.2.2).bind fun bt173 => (if x3_1.size + bt173.1.size ≤ 9223372036854775807 then (if (x3_1 ++ bt173.1).size + 1 ≤ 9223372036854775807 then (gharrylaw25_SayAlls.l0 kj1 l0 ((x3_1 ++ bt173.1) ++ (⟨#[10]⟩ : ByteArray)) bt173.2 (wrap64 (x5_1 + 1))) else (none)) else (none)))) else (none)) else (none)) = some r := by rw [if_pos rfl] at H; exact H
            clear H
            have H := H1
            clear H1
            by_cases c5 : 0 ≤ x5_1
            · rw [if_pos c5] at H
              have c5b0 : decide (0 ≤ x5_1) = true := decide_eq_true c5
              clear c5
              by_cases c6 : x5_1 < (l0.length : Int)
              · rw [if_pos c6] at H
                have c6b0 : decide (x5_1 < (l0.length : Int)) = true := decide_eq_true c6
                clear c6
                replace H := Option.bind_eq_some_iff.mp H
                obtain ⟨⟨t165, t166, t167, t168, t169, t170, t171, t172⟩, A70, H⟩ := H
                replace H : ((gharryref25_Print.f kj1 t165 t166 t167 t168 t169 t170 t171 t172).bind fun bt173 => (if x3_1.size + bt173.1.size ≤ 9223372036854775807 then (if (x3_1 ++ bt173.1).size + 1 ≤ 9223372036854775807 then (gharrylaw25_SayAlls.l0 kj1 l0 ((x3_1 ++ bt173.1) ++ (⟨#[10]⟩ : ByteArray)) bt173.2 (wrap64 (x5_1 + 1))) else (none)) else (none))) = some r := H
                have A7 := Aside0.mk A70
                clear A70
                replace H := Option.bind_eq_some_iff.mp H
                obtain ⟨⟨t173, t174⟩, A80, H⟩ := H
                replace H : (if x3_1.size + t173.size ≤ 9223372036854775807 then (if (x3_1 ++ t173).size + 1 ≤ 9223372036854775807 then (gharrylaw25_SayAlls.l0 kj1 l0 ((x3_1 ++ t173) ++ (⟨#[10]⟩ : ByteArray)) t174 (wrap64 (x5_1 + 1))) else (none)) else (none)) = some r := H
                have A8 := Aside0.mk A80
                clear A80
                by_cases c9 : x3_1.size + t173.size ≤ 9223372036854775807
                · rw [if_pos c9] at H
                  have c9b0 := eq_true c9
                  have c9b1 : decide (x3_1.size + t173.size ≤ 9223372036854775807) = true := decide_eq_true c9
                  try have c9b2 : (9223372036854775807 < x3_1.size + t173.size) = False := eq_false (Nat.not_lt.2 c9)
                  by_cases c10 : (x3_1 ++ t173).size + 1 ≤ 9223372036854775807
                  · rw [if_pos c10] at H
                    have c10b0 := eq_true c10
                    have c10b1 : decide ((x3_1 ++ t173).size + 1 ≤ 9223372036854775807) = true := decide_eq_true c10
                    try have c10b2 : (9223372036854775807 < (x3_1 ++ t173).size + 1) = False := eq_false (Nat.not_lt.2 c10)
                    try have c10b8 : (9223372036854775807 < x3_1.size + t173.size + 1) = False := eq_false (Nat.not_lt.2 (by have h_ := c10; simp only [ByteArray.size_append] at h_; exact h_))
                    have H' := Aside0.mk H
                    clear H
                    have p164 : 0 ≤ (x5_1 : Int) := of_decide_eq_true (by first | (with_reducible assumption) | assumption)
                    have q164 : x5_1 < (l0.length : Int) := of_decide_eq_true (by first | (with_reducible assumption) | assumption)
                    obtain ⟨ad164, e164, hx164_0, hx164_1, hx164_2, hx164_3, hx164_4, hx164_5, hx164_6, hx164_7⟩ := at_T32 HR0.out x5_1 p164 q164
                    cases e164
                    replace hx164_0 := (HB.out.cell (World.block_lt_of_cell? w _ hx164_0)).trans hx164_0
                    replace hx164_1 := (HB.out.cell (World.block_lt_of_cell? w _ hx164_1)).trans hx164_1
                    replace hx164_2 := (HB.out.cell (World.block_lt_of_cell? w _ hx164_2)).trans hx164_2
                    replace hx164_3 := (HB.out.cell (World.block_lt_of_cell? w _ hx164_3)).trans hx164_3
                    replace hx164_4 := (HB.out.cell (World.block_lt_of_cell? w _ hx164_4)).trans hx164_4
                    replace hx164_5 := (HB.out.cell (World.block_lt_of_cell? w _ hx164_5)).trans hx164_5
                    replace hx164_6 := (HB.out.cell (World.block_lt_of_cell? w _ hx164_6)).trans hx164_6
                    replace hx164_7 := (HB.out.cell (World.block_lt_of_cell? w _ hx164_7)).trans hx164_7
                    replace p164 := eq_true p164
                    replace q164 := eq_true q164
                    go_wp2_with (first | ((with_reducible refine gate_callee (f := 17) rfl ?_); refine goesL_ (some 36) rfl rfl Tryd.func17 (by kernel_rfl) rfl #[.agg #[.int .i64 ((rd_T32 l0 x5_1).f0), .int .i64 ((rd_T32 l0 x5_1).f1), .int .i64 ((rd_T32 l0 x5_1).f2), .int .i64 ((rd_T32 l0 x5_1).f3), .int .u64 ((rd_T32 l0 x5_1).f4), .string ((rd_T32 l0 x5_1).f5), .string ((rd_T32 l0 x5_1).f6), .bool ((rd_T32 l0 x5_1).f7)]] rfl (by (try simp only [List.map_toArray, List.map_cons, List.map_nil]); first | done | rfl | (simp only [List.length_drop, List.length_take]; rfl)) ?_; (with_reducible refine (gharrylaw25_few.calls ((rd_T32 l0 x5_1).f0) ((rd_T32 l0 x5_1).f1) ((rd_T32 l0 x5_1).f2) ((rd_T32 l0 x5_1).f3) ((rd_T32 l0 x5_1).f4) ((rd_T32 l0 x5_1).f5) ((rd_T32 l0 x5_1).f6) ((rd_T32 l0 x5_1).f7) t165 t166 t167 t168 t169 t170 t171 t172 _ A7.out).mono ?_); rintro e w11 ⟨rfl, hb⟩; refine ⟨_, rfl, ?_⟩; have n0_ := Aside0.mk (below_step (by repeat (first | (with_reducible first | exact HB.out | apply below_alloc | apply pw_below_drewN | apply below_drew1) | exact HB.out)) hb); clear HB; have HB := n0_; clear n0_; (try clear hb); (try clear hb2); (try clear hk); (try clear hi)) | ((with_reducible refine gate_callee (f := 25) rfl ?_); refine goesL_ (some 37) rfl rfl Tryd.func25 (by kernel_rfl) rfl #[.agg #[.int .i64 t165, .int .i64 t166, .int .i64 t167, .int .i64 t168, .int .u64 t169, .string t170, .string t171, .bool t172]] rfl (by (try simp only [List.map_toArray, List.map_cons, List.map_nil]); first | done | rfl | (simp only [List.length_drop, List.length_take]; rfl)) ?_; (with_reducible refine (gharryref25_Print.calls kj1 t165 t166 t167 t168 t169 t170 t171 t172 t173 t174 _ A8.out).mono ?_); rintro e w12 ⟨rfl, hb⟩; refine ⟨_, rfl, ?_⟩; have n0_ := Aside0.mk (below_step (by repeat (first | (with_reducible first | exact HB.out | apply below_alloc | apply pw_below_drewN | apply below_drew1) | exact HB.out)) hb); clear HB; have HB := n0_; clear n0_; (try clear hb); (try clear hb2); (try clear hk); (try clear hi)))
                    go_roundg kj1
                    case measure => have := HK1.out; have := HJ1.out; omega
                    case rel => exact ⟨((x3_1 ++ t173) ++ (⟨#[10]⟩ : ByteArray)), (t174), (wrap64 (x5_1 + 1)), (by first | rfl | (simp; done) | (simp [*]; done)), (by first | rfl | (simp; done) | (simp [*]; done)), (by first | rfl | (simp; done) | (simp [*]; done)), H', ⟨by have := HK1.out; have := HJ1.out; omega⟩, ⟨by repeat (first | (with_reducible first | exact HB.out | apply below_alloc | apply pw_below_drewN | apply below_drew1) | exact HB.out)⟩⟩
                  · rw [if_neg c10] at H
                    exact absurd H (by simp)
                · rw [if_neg c9] at H
                  exact absurd H (by simp)
              · rw [if_neg c6] at H
                exact absurd H (by simp)
            · rw [if_neg c5] at H
              exact absurd H (by simp)
          · replace c4 := Bool.eq_false_iff.mpr c4
            subst c4
            have H1 : (gharrylaw25_SayAlls.l1 kj1 l0 x3_1 x4_1 ([] : List (S32)) 0) = some r := by rw [if_neg (show ¬ (false = true) by decide)] at H; exact H
            clear H
            have H := H1
            clear H1
            have H' := Aside0.mk H
            clear H
            go_wp2
            go_loopg [8, 9] kj1 (fun kq v8 v9 w' => ∃ (x8_3 : List (S32)) (x9_3 : Int), v9 = .int .i64 x9_3 ∧ Aside0 (gharrylaw25_SayAlls.l1 kq l0 x3_1 x4_1 x8_3 x9_3 = some r) ∧ Aside0 (kq ≤ kj1) ∧ Aside0 (Kd.R k32 32 w' w.heap.size (fun _ => True) v8 x8_3) ∧ Aside0 (Below w.heap.size w w'))
            case atStart => exact ⟨(([] : List (S32))), (0), (by first | rfl | (simp; done) | (simp [*]; done)), H', ⟨Nat.le_refl _⟩, ⟨by first | exact Kd.R_nil _ _ _ _ _ | exact Kd.N_nil _ _ _ _ _ | exact Kd.V_nil _ _ _ _ _ | exact Kd.Q_nil _ _ _ _ _ | exact Kd.S_nil _ _ _ _ _⟩, ⟨by repeat (first | (with_reducible first | exact HB.out | apply below_alloc | apply pw_below_drewN | apply below_drew1) | exact HB.out)⟩⟩
            case round =>
              clear H'
              (try clear c1); (try clear p1); (try clear q1); (try clear hx1); (try clear c2); (try clear p2); (try clear c3); (try clear c3b0); (try clear c4); (try clear c5); (try clear c5b0); (try clear c6); (try clear c6b0); (try clear p6); (try clear c9); (try clear c9b0); (try clear c9b1); (try clear c9b2); (try clear c10); (try clear c10b0); (try clear c10b1); (try clear c10b2); (try clear hx164_0); (try clear hx164_1); (try clear hx164_2); (try clear hx164_3); (try clear hx164_4); (try clear hx164_5); (try clear hx164_6); (try clear hx164_7); (try clear p164); (try clear p2); (try clear q164)
              obtain ⟨x8_3, x9_3, rfl, HA, HK3, HO_8, HB⟩ := hrel
              cases gk with
              | zero => exact absurd HA.out (by simp [gharrylaw25_SayAlls.l1])
              | succ k3 =>
                have H := HA.out
                clear HA
                simp only [gharrylaw25_SayAlls.l1] at H
                by_cases c13 : x9_3 < (l0.length : Int)
                · rw [if_pos c13] at H
                  have c13b0 : decide (x9_3 < (l0.length : Int)) = true := decide_eq_true c13
                  clear c13
                  by_cases c14 : 0 ≤ x9_3
                  · rw [if_pos c14] at H
                    have c14b0 : decide (0 ≤ x9_3) = true := decide_eq_true c14
                    clear c14
                    replace H := Option.bind_eq_some_iff.mp H
                    obtain ⟨⟨t176, t177, t178, t179, t180, t181, t182, t183⟩, A150, H⟩ := H
                    replace H : (if x8_3.length < 1759218604441 then (gharrylaw25_SayAlls.l1 k3 l0 x3_1 x4_1 (x8_3 ++ [(⟨t176, t177, t178, t179, t180, t181, t182, t183⟩ : S32)]) (wrap64 (x9_3 + 1))) else (none)) = some r := H
                    have A15 := Aside0.mk A150
                    clear A150
                    by_cases c16 : x8_3.length < 1759218604441
                    · rw [if_pos c16] at H
                      have LMc16 := Aside0.mk c16
                      clear c16
                      obtain ⟨y184, hy184⟩ : ∃ y_ : List (S32), y_ = (x8_3 ++ [(⟨t176, t177, t178, t179, t180, t181, t182, t183⟩ : S32)]) := ⟨_, rfl⟩
                      replace H : (gharrylaw25_SayAlls.l1 k3 l0 x3_1 x4_1 y184 (wrap64 (x9_3 + 1))) = some r := by first | (rw [hy184]; with_reducible exact H) | (have H2_ := (Option.bind_some _ _).symm.trans H; rw [hy184]; with_reducible exact H2_) | (have H2_ := (Option.bind_some _ _).symm.trans H; with_reducible exact H2_) | with_reducible exact H | (rw [hy184]; exact H) | exact H
                      have Ny184 := Aside0.mk hy184
                      clear hy184
                      have H' := Aside0.mk H
                      clear H
                      have p175 : 0 ≤ (x9_3 : Int) := of_decide_eq_true (by first | (with_reducible assumption) | assumption)
                      have q175 : x9_3 < (l0.length : Int) := of_decide_eq_true (by first | (with_reducible assumption) | assumption)
                      obtain ⟨ad175, e175, hx175_0, hx175_1, hx175_2, hx175_3, hx175_4, hx175_5, hx175_6, hx175_7⟩ := at_T32 HR0.out x9_3 p175 q175
                      cases e175
                      replace hx175_0 := (HB.out.cell (World.block_lt_of_cell? w _ hx175_0)).trans hx175_0
                      replace hx175_1 := (HB.out.cell (World.block_lt_of_cell? w _ hx175_1)).trans hx175_1
                      replace hx175_2 := (HB.out.cell (World.block_lt_of_cell? w _ hx175_2)).trans hx175_2
                      replace hx175_3 := (HB.out.cell (World.block_lt_of_cell? w _ hx175_3)).trans hx175_3
                      replace hx175_4 := (HB.out.cell (World.block_lt_of_cell? w _ hx175_4)).trans hx175_4
                      replace hx175_5 := (HB.out.cell (World.block_lt_of_cell? w _ hx175_5)).trans hx175_5
                      replace hx175_6 := (HB.out.cell (World.block_lt_of_cell? w _ hx175_6)).trans hx175_6
                      replace hx175_7 := (HB.out.cell (World.block_lt_of_cell? w _ hx175_7)).trans hx175_7
                      replace p175 := eq_true p175
                      replace q175 := eq_true q175
                      go_wp2_with (first | ((with_reducible refine gate_callee (f := 17) rfl ?_); refine goesL_ (some 56) rfl rfl Tryd.func17 (by kernel_rfl) rfl #[.agg #[.int .i64 ((rd_T32 l0 x9_3).f0), .int .i64 ((rd_T32 l0 x9_3).f1), .int .i64 ((rd_T32 l0 x9_3).f2), .int .i64 ((rd_T32 l0 x9_3).f3), .int .u64 ((rd_T32 l0 x9_3).f4), .string ((rd_T32 l0 x9_3).f5), .string ((rd_T32 l0 x9_3).f6), .bool ((rd_T32 l0 x9_3).f7)]] rfl (by (try simp only [List.map_toArray, List.map_cons, List.map_nil]); first | done | rfl | (simp only [List.length_drop, List.length_take]; rfl)) ?_; (with_reducible refine (gharrylaw25_few.calls ((rd_T32 l0 x9_3).f0) ((rd_T32 l0 x9_3).f1) ((rd_T32 l0 x9_3).f2) ((rd_T32 l0 x9_3).f3) ((rd_T32 l0 x9_3).f4) ((rd_T32 l0 x9_3).f5) ((rd_T32 l0 x9_3).f6) ((rd_T32 l0 x9_3).f7) t176 t177 t178 t179 t180 t181 t182 t183 _ A15.out).mono ?_); rintro e w17 ⟨rfl, hb⟩; refine ⟨_, rfl, ?_⟩; have n0_ := Aside0.mk (Kd.R_below (by (with_reducible repeat (first | apply Kd.R_alloc | apply Kd.R_drewN | apply Kd.R_drew)); exact HO_8.out) hb); have n1_ := Aside0.mk (below_step (by repeat (first | (with_reducible first | exact HB.out | apply below_alloc | apply pw_below_drewN | apply below_drew1) | exact HB.out)) hb); clear HO_8; clear HB; have HO_8 := n0_; have HB := n1_; clear n0_ n1_; (try clear hb); (try clear hb2); (try clear hk); (try clear hi)) | ((with_reducible refine gate_builtin (b := .append) (xs := #[.tmp 51, .tmp 57]) rfl ?_); (try (refine gate_guard (by rfl) ?_; dsimp only)); at_builtin; refine Kd.R_append k32 (w0 := w) w.heap.size rfl (.tmp 51) (.tmp 57) 38 32 (.agg #[(.int .i64 0), (.int .i64 0), (.int .i64 0), (.int .i64 0), (.int .u64 0), (.string ⟨#[]⟩), (.string ⟨#[]⟩), (.bool false)]) 80 rfl Tryd.underlying38 info32 rfl (by decide) (by omega) u8 x8_3 (⟨t176, t177, t178, t179, t180, t181, t182, t183⟩ : S32) [.int .i64 t176, .int .i64 t177, .int .i64 t178, .int .i64 t179, .int .u64 t180, .string t181, .string t182, .bool t183] (fun _ => True) (fun _ => False) rfl rfl ?aP (fun _ hk => hk.elim) ?aF ?aO ?aB ?aS ?aL ?_; (case aP => exact k32_mkM _ _ _ (⟨t176, t177, t178, t179, t180, t181, t182, t183⟩ : S32)); (case aB => exact (by repeat (first | (with_reducible first | exact HB.out | apply below_alloc | apply pw_below_drewN | apply below_drew1) | exact HB.out))); (case aF => exact (fun _ _ => trivial)); (case aO => exact (by (with_reducible repeat (first | apply Kd.R_alloc | apply Kd.R_drewN | apply Kd.R_drew)); exact HO_8.out)); (case aS => exact (below_size (by repeat (first | (with_reducible first | exact HB.out | apply below_alloc | apply pw_below_drewN | apply below_drew1) | exact HB.out)))); (case aL => have := LMc16.out; omega); intro v185 w18 ho hb hg hat; rw [← Ny184.out] at ho; have n0_ := Aside0.mk (hb); have n1_ := Aside0.mk (ho); clear HB; clear HO_8; have HB := n0_; have HO186 := n1_; clear n0_ n1_; clear ho hb hg hat))
                      go_roundg k3
                      case measure => have := HK1.out; have := HJ1.out; have := HK3.out; omega
                      case rel => exact ⟨(y184), (wrap64 (x9_3 + 1)), (by first | rfl | (simp; done) | (simp [*]; done)), H', ⟨by have := HK1.out; have := HJ1.out; have := HK3.out; omega⟩, ⟨by (with_reducible repeat (first | apply Kd.R_alloc | apply Kd.R_drewN | apply Kd.R_drew)); exact HO186.out⟩, ⟨by repeat (first | (with_reducible first | exact HB.out | apply below_alloc | apply pw_below_drewN | apply below_drew1) | exact HB.out)⟩⟩
                    · rw [if_neg c16] at H
                      exact absurd H (by simp)
                  · rw [if_neg c14] at H
                    exact absurd H (by simp)
                · rw [if_neg c13] at H
                  have c13b0 : decide (x9_3 < (l0.length : Int)) = false := decide_eq_false c13
                  clear c13
                  replace H := Option.bind_eq_some_iff.mp H
                  obtain ⟨⟨t187, t188⟩, A190, H⟩ := H
                  replace H : (if x4_1 = 0 then ((say_Script.f k3 t187).bind fun bt190 => (if t187.toList = x3_1.toList then (if t188 = 0 then (if bt190.2.2 = 0 then (gharrylaw25_SayAlls.j3 k3 x8_3 bt190.1 ((bt190.1.length : Int) != (x8_3.length : Int))) else (gharrylaw25_SayAlls.j3 k3 x8_3 bt190.1 true)) else (gharrylaw25_SayAlls.j3 k3 x8_3 bt190.1 true)) else (gharrylaw25_SayAlls.j3 k3 x8_3 bt190.1 true))) else (if t187.toList = ([] : List UInt8) then (if t188 = x4_1 then ((gharrylaw25_awake.f).bind fun t189 => (some t189)) else (some false)) else (some false))) = some r := H
                  have A19 := Aside0.mk A190
                  clear A190
                  by_cases c20 : x4_1 = 0
                  · rw [if_pos c20] at H
                    have c20b0 : (x4_1 == 0) = true := beq_iff_eq.mpr c20
                    have c20b1 : (x4_1 != 0) = false := bne_eq_false_iff_eq.mpr c20
                    clear c20
                    replace H := Option.bind_eq_some_iff.mp H
                    obtain ⟨⟨t190, t191, t192⟩, A210, H⟩ := H
                    replace H : (if t187.toList = x3_1.toList then (if t188 = 0 then (if t192 = 0 then (gharrylaw25_SayAlls.j3 k3 x8_3 t190 ((t190.length : Int) != (x8_3.length : Int))) else (gharrylaw25_SayAlls.j3 k3 x8_3 t190 true)) else (gharrylaw25_SayAlls.j3 k3 x8_3 t190 true)) else (gharrylaw25_SayAlls.j3 k3 x8_3 t190 true)) = some r := H
                    have A21 := Aside0.mk A210
                    clear A210
                    have HC22 := Aside0.mk H
                    clear H
                    obtain ⟨Ao23, co23, eo23⟩ := Kd.R_slice HO_8.out
                    subst eo23
                    go_upto_region 20 with (first | ((with_reducible refine gate_callee (f := 29) rfl ?_); refine goesL_ (some 61) rfl rfl Tryd.func29 (by kernel_rfl) rfl #[.slice Ao23 x8_3.length co23] rfl (by (try simp only [List.map_toArray, List.map_cons, List.map_nil]); first | done | rfl | (simp only [List.length_drop, List.length_take]; rfl)) ?_; (with_reducible refine (say_PrintAll.calls _ _ x8_3 t187 t188 _ ?side1 ?side2 A19.out).mono ?_); (case side1 => repeat (first | exact (Kd.R_reads' HO_8.out).2.2 | (with_reducible refine Kd.C_alloc ?_ _) | (with_reducible refine Kd.C_drewN ?_ _) | (with_reducible refine Kd.C_drew ?_))); (case side2 => exact (Kd.R_reads' HO_8.out).2.1); rintro e w24 ⟨rfl, hb⟩; refine ⟨_, rfl, ?_⟩; have n0_ := Aside0.mk (Kd.R_below (by (with_reducible repeat (first | apply Kd.R_alloc | apply Kd.R_drewN | apply Kd.R_drew)); exact HO_8.out) hb); have n1_ := Aside0.mk (below_step (by repeat (first | (with_reducible first | exact HB.out | apply below_alloc | apply pw_below_drewN | apply below_drew1) | exact HB.out)) hb); clear HO_8; clear HB; have HO_8 := n0_; have HB := n1_; clear n0_ n1_; (try clear hb); (try clear hb2); (try clear hk); (try clear hi)) | ((with_reducible refine gate_callee (f := 22) rfl ?_); refine goesL_ (some 78) rfl rfl Tryd.func22 (by kernel_rfl) rfl #[.string t187] rfl (by (try simp only [List.map_toArray, List.map_cons, List.map_nil]); first | done | rfl | (simp only [List.length_drop, List.length_take]; rfl)) ?_; (with_reducible refine (say_Script.calls k3 t187 t190 t191 t192 _ A21.out).mono ?_); rintro e w25 ⟨v193, rfl, ho0, hb⟩; refine ⟨_, rfl, ?_⟩; have n0_ := Aside0.mk (Kd.R_elder' (by (with_reducible repeat (first | apply Kd.R_alloc | apply Kd.R_drewN | apply Kd.R_drew)); exact HO_8.out) (Kd.R_base ho0) hb); have n1_ := Aside0.mk (Kd.R_lower (Kd.R_new' ho0 (Kd.R_lt (by (with_reducible repeat (first | apply Kd.R_alloc | apply Kd.R_drewN | apply Kd.R_drew)); exact HO_8.out))) (below_size (by repeat (first | (with_reducible first | exact HB.out | apply below_alloc | apply pw_below_drewN | apply below_drew1) | exact HB.out)))); have n2_ := Aside0.mk (below_step (by repeat (first | (with_reducible first | exact HB.out | apply below_alloc | apply pw_below_drewN | apply below_drew1) | exact HB.out)) hb); clear HO_8; clear HB; have HO_8 := n0_; have HO194 := n1_; have HB := n2_; clear n0_ n1_ n2_; (try clear hb); (try clear hb2); (try clear hk); (try clear hi); (try clear ho0)))
                    (try simp only [Act.put, List.setIfInBounds_toArray, List.set_cons_zero, List.set_cons_succ])
                    go_cut [99] (fun v99 wc => ∃ (kq : Nat) (x99_21 : Bool), v99 = .bool x99_21 ∧ Aside0 (gharrylaw25_SayAlls.j3 kq x8_3 t190 x99_21 = some r) ∧ Aside0 (kq ≤ k3) ∧ Aside0 (Kd.R k32 32 wc w.heap.size (fun k_ => some k_ ≠ (v193 : Value).ownBlock) (.slice Ao23 x8_3.length co23) x8_3) ∧ Aside0 (Kd.R k32 32 wc w.heap.size (fun k_ => some k_ ≠ ((.slice Ao23 x8_3.length co23) : Value).ownBlock) v193 t190) ∧ Aside0 (Below w.heap.size w wc))
                    case first =>
                      have H := HC22.out
                      clear HC22
                      by_cases c26 : t187.toList = x3_1.toList
                      · rw [if_pos c26] at H
                        have c26b0 : (t187.toList == x3_1.toList) = true := beq_iff_eq.mpr c26
                        have c26b1 : (t187.toList != x3_1.toList) = false := bne_eq_false_iff_eq.mpr c26
                        clear c26
                        (first | rw [c26b0] | (simp only [i64_w, i32_w]; rw [c26b0]) | skip)
                        by_cases c27 : t188 = 0
                        · rw [if_pos c27] at H
                          have c27b0 : (t188 == 0) = true := beq_iff_eq.mpr c27
                          have c27b1 : (t188 != 0) = false := bne_eq_false_iff_eq.mpr c27
                          clear c27
                          by_cases c28 : t192 = 0
                          · rw [if_pos c28] at H
                            have c28b0 : (t192 == 0) = true := beq_iff_eq.mpr c28
                            have c28b1 : (t192 != 0) = false := bne_eq_false_iff_eq.mpr c28
                            clear c28
                            have H' := Aside0.mk H
                            clear H
                            obtain ⟨Ao29, co29, eo29⟩ := Kd.R_slice HO194.out
                            subst eo29
                            go_wp2
                            go_meet
                            case rel => exact ⟨_, (((t190.length : Int) != (x8_3.length : Int))), (by first | rfl | (simp; done) | (simp [*]; done)), H', ⟨by have := HK1.out; have := HJ1.out; have := HK3.out; first | omega | exact Nat.le_refl _⟩, ⟨by (with_reducible repeat (first | apply Kd.R_alloc | apply Kd.R_drewN | apply Kd.R_drew)); exact Kd.R_mono HO_8.out (fun _ hk => hk.2)⟩, ⟨by (with_reducible repeat (first | apply Kd.R_alloc | apply Kd.R_drewN | apply Kd.R_drew)); exact Kd.R_mono HO194.out (fun _ hk => hk.2)⟩, ⟨by repeat (first | (with_reducible first | exact HB.out | apply below_alloc | apply pw_below_drewN | apply below_drew1) | exact HB.out)⟩⟩
                          · rw [if_neg c28] at H
                            have c28b0 : (t192 == 0) = false := beq_eq_false_iff_ne.mpr c28
                            have c28b1 : (t192 != 0) = true := bne_iff_ne.mpr c28
                            have H' := Aside0.mk H
                            clear H
                            go_wp2
                            go_meet
                            case rel => exact ⟨_, (true), (by first | rfl | (simp; done) | (simp [*]; done)), H', ⟨by have := HK1.out; have := HJ1.out; have := HK3.out; first | omega | exact Nat.le_refl _⟩, ⟨by (with_reducible repeat (first | apply Kd.R_alloc | apply Kd.R_drewN | apply Kd.R_drew)); exact Kd.R_mono HO_8.out (fun _ hk => hk.2)⟩, ⟨by (with_reducible repeat (first | apply Kd.R_alloc | apply Kd.R_drewN | apply Kd.R_drew)); exact Kd.R_mono HO194.out (fun _ hk => hk.2)⟩, ⟨by repeat (first | (with_reducible first | exact HB.out | apply below_alloc | apply pw_below_drewN | apply below_drew1) | exact HB.out)⟩⟩
                        · rw [if_neg c27] at H
                          have c27b0 : (t188 == 0) = false := beq_eq_false_iff_ne.mpr c27
                          have c27b1 : (t188 != 0) = true := bne_iff_ne.mpr c27
                          have H' := Aside0.mk H
                          clear H
                          go_wp2
                          go_meet
                          case rel => exact ⟨_, (true), (by first | rfl | (simp; done) | (simp [*]; done)), H', ⟨by have := HK1.out; have := HJ1.out; have := HK3.out; first | omega | exact Nat.le_refl _⟩, ⟨by (with_reducible repeat (first | apply Kd.R_alloc | apply Kd.R_drewN | apply Kd.R_drew)); exact Kd.R_mono HO_8.out (fun _ hk => hk.2)⟩, ⟨by (with_reducible repeat (first | apply Kd.R_alloc | apply Kd.R_drewN | apply Kd.R_drew)); exact Kd.R_mono HO194.out (fun _ hk => hk.2)⟩, ⟨by repeat (first | (with_reducible first | exact HB.out | apply below_alloc | apply pw_below_drewN | apply below_drew1) | exact HB.out)⟩⟩
                      · rw [if_neg c26] at H
                        have c26b0 : (t187.toList == x3_1.toList) = false := beq_eq_false_iff_ne.mpr c26
                        have c26b1 : (t187.toList != x3_1.toList) = true := bne_iff_ne.mpr c26
                        (first | rw [c26b0] | (simp only [i64_w, i32_w]; rw [c26b0]) | skip)
                        have H' := Aside0.mk H
                        clear H
                        go_wp2
                        go_meet
                        case rel => exact ⟨_, (true), (by first | rfl | (simp; done) | (simp [*]; done)), H', ⟨by have := HK1.out; have := HJ1.out; have := HK3.out; first | omega | exact Nat.le_refl _⟩, ⟨by (with_reducible repeat (first | apply Kd.R_alloc | apply Kd.R_drewN | apply Kd.R_drew)); exact Kd.R_mono HO_8.out (fun _ hk => hk.2)⟩, ⟨by (with_reducible repeat (first | apply Kd.R_alloc | apply Kd.R_drewN | apply Kd.R_drew)); exact Kd.R_mono HO194.out (fun _ hk => hk.2)⟩, ⟨by repeat (first | (with_reducible first | exact HB.out | apply below_alloc | apply pw_below_drewN | apply below_drew1) | exact HB.out)⟩⟩
                    case rest =>
                      clear HC22
                      (try clear c1); (try clear p1); (try clear q1); (try clear hx1); (try clear c2); (try clear p2); (try clear c3); (try clear c3b0); (try clear c4); (try clear c5); (try clear c5b0); (try clear c6); (try clear c6b0); (try clear p6); (try clear c9); (try clear c9b0); (try clear c9b1); (try clear c9b2); (try clear c10); (try clear c10b0); (try clear c10b1); (try clear c10b2); (try clear c13); (try clear c13b0); (try clear c14); (try clear c14b0); (try clear c16); (try clear p16); (try clear q16); (try clear hx16); (try clear c17); (try clear p17); (try clear q17); (try clear hx17); (try clear c20); (try clear c20b0); (try clear c20b1); (try clear c22); (try clear c25); (try clear c26); (try clear c26b0); (try clear c26b1); (try clear c27); (try clear c27b0); (try clear c27b1); (try clear c28); (try clear c28b0); (try clear c28b1); (try clear c29); (try clear hx164_0); (try clear hx164_1); (try clear hx164_2); (try clear hx164_3); (try clear hx164_4); (try clear hx164_5); (try clear hx164_6); (try clear hx164_7); (try clear hx175_0); (try clear hx175_1); (try clear hx175_2); (try clear hx175_3); (try clear hx175_4); (try clear hx175_5); (try clear hx175_6); (try clear hx175_7); (try clear p1); (try clear p164); (try clear p175); (try clear p2); (try clear p6); (try clear q1); (try clear q164); (try clear q175)
                      obtain ⟨kq, x99_21, rfl, HA, HJ21, HO_8, HO_12, HB⟩ := hcut
                      cases kq with
                      | zero => exact absurd HA.out (by simp [gharrylaw25_SayAlls.j3])
                      | succ kj21 =>
                        have H := HA.out
                        clear HA
                        simp only [gharrylaw25_SayAlls.j3] at H
                        by_cases c30 : x99_21 = true
                        · subst c30
                          have H1 : (some false) = some r := by rw [if_pos rfl] at H; exact H
                          clear H
                          have H := H1
                          clear H1
                          obtain rfl := Option.some.inj H
                          go_wp2
                          go_ret
                          exact ⟨by first | rfl | (simp [errW_none, errW_some] <;> rfl) | (simp [*, errW_none, errW_some] <;> rfl), by repeat (first | (with_reducible first | exact HB.out | apply below_alloc | apply pw_below_drewN | apply below_drew1) | exact HB.out)⟩
                        · replace c30 := Bool.eq_false_iff.mpr c30
                          subst c30
                          have H1 : (gharrylaw25_SayAlls.l2 kj21 x8_3 t190 0) = some r := by rw [if_neg (show ¬ (false = true) by decide)] at H; exact H
                          clear H
                          have H := H1
                          clear H1
                          have H' := Aside0.mk H
                          clear H
                          go_wp2
                          go_loopg [15] kj21 (fun kq v15 w' => ∃ (x15_5 : Int), v15 = .int .i64 x15_5 ∧ Aside0 (gharrylaw25_SayAlls.l2 kq x8_3 t190 x15_5 = some r) ∧ Aside0 (kq ≤ kj21) ∧ Aside0 (Kd.R k32 32 w' w.heap.size (fun k_ => some k_ ≠ (v193 : Value).ownBlock) (.slice Ao23 x8_3.length co23) x8_3) ∧ Aside0 (Kd.R k32 32 w' w.heap.size (fun k_ => some k_ ≠ ((.slice Ao23 x8_3.length co23) : Value).ownBlock) v193 t190) ∧ Aside0 (Below w.heap.size w w'))
                          case atStart => exact ⟨(0), (by first | rfl | (simp; done) | (simp [*]; done)), H', ⟨Nat.le_refl _⟩, ⟨by (with_reducible repeat (first | apply Kd.R_alloc | apply Kd.R_drewN | apply Kd.R_drew)); exact HO_8.out⟩, ⟨by (with_reducible repeat (first | apply Kd.R_alloc | apply Kd.R_drewN | apply Kd.R_drew)); exact HO_12.out⟩, ⟨by repeat (first | (with_reducible first | exact HB.out | apply below_alloc | apply pw_below_drewN | apply below_drew1) | exact HB.out)⟩⟩
                          case round =>
                            clear H'
                            (try clear c1); (try clear p1); (try clear q1); (try clear hx1); (try clear c2); (try clear p2); (try clear c3); (try clear c3b0); (try clear c4); (try clear c5); (try clear c5b0); (try clear c6); (try clear c6b0); (try clear p6); (try clear c9); (try clear c9b0); (try clear c9b1); (try clear c9b2); (try clear c10); (try clear c10b0); (try clear c10b1); (try clear c10b2); (try clear c13); (try clear c13b0); (try clear c14); (try clear c14b0); (try clear c16); (try clear p16); (try clear q16); (try clear hx16); (try clear c17); (try clear p17); (try clear q17); (try clear hx17); (try clear c20); (try clear c20b0); (try clear c20b1); (try clear c22); (try clear c25); (try clear c26); (try clear c26b0); (try clear c26b1); (try clear c27); (try clear c27b0); (try clear c27b1); (try clear c28); (try clear c28b0); (try clear c28b1); (try clear c29); (try clear c30); (try clear hx164_0); (try clear hx164_1); (try clear hx164_2); (try clear hx164_3); (try clear hx164_4); (try clear hx164_5); (try clear hx164_6); (try clear hx164_7); (try clear hx175_0); (try clear hx175_1); (try clear hx175_2); (try clear hx175_3); (try clear hx175_4); (try clear hx175_5); (try clear hx175_6); (try clear hx175_7); (try clear p1); (try clear p16); (try clear p164); (try clear p17); (try clear p175); (try clear p2); (try clear p6); (try clear q1); (try clear q16); (try clear q164); (try clear q17); (try clear q175)
                            obtain ⟨x15_5, rfl, HA, HK5, HO_8, HO_12, HB⟩ := hrel
                            cases gk with
                            | zero => exact absurd HA.out (by simp [gharrylaw25_SayAlls.l2])
                            | succ k5 =>
                              have H := HA.out
                              clear HA
                              simp only [gharrylaw25_SayAlls.l2] at H
                              by_cases c31 : x15_5 < (t190.length : Int)
                              · rw [if_pos c31] at H
                                have c31b0 : decide (x15_5 < (t190.length : Int)) = true := decide_eq_true c31
                                clear c31
                                by_cases c32 : 0 ≤ x15_5
                                · rw [if_pos c32] at H
                                  have c32b0 : decide (0 ≤ x15_5) = true := decide_eq_true c32
                                  clear c32
                                  by_cases c33 : x15_5 < (x8_3.length : Int)
                                  · rw [if_pos c33] at H
                                    have c33b0 : decide (x15_5 < (x8_3.length : Int)) = true := decide_eq_true c33
                                    clear c33
                                    replace H := Option.bind_eq_some_iff.mp H
                                    obtain ⟨⟨t197, t198, t199, t200, t201, t202, t203, t204⟩, A340, H⟩ := H
                                    replace H : (if (!(((rd_T32 t190 x15_5).f0) == t197) || (!(((rd_T32 t190 x15_5).f1) == t198) || (!(((rd_T32 t190 x15_5).f2) == t199) || (!(((rd_T32 t190 x15_5).f3) == t200) || (!(((rd_T32 t190 x15_5).f4) == t201) || (!((((rd_T32 t190 x15_5).f5).toList) == t202.toList) || (!((((rd_T32 t190 x15_5).f6).toList) == t203.toList) || (!(((rd_T32 t190 x15_5).f7) == t204))))))))) = true then (some false) else (gharrylaw25_SayAlls.l2 k5 x8_3 t190 (wrap64 (x15_5 + 1)))) = some r := H
                                    have A34 := Aside0.mk A340
                                    clear A340
                                    by_cases c35 : (!(((rd_T32 t190 x15_5).f0) == t197) || (!(((rd_T32 t190 x15_5).f1) == t198) || (!(((rd_T32 t190 x15_5).f2) == t199) || (!(((rd_T32 t190 x15_5).f3) == t200) || (!(((rd_T32 t190 x15_5).f4) == t201) || (!((((rd_T32 t190 x15_5).f5).toList) == t202.toList) || (!((((rd_T32 t190 x15_5).f6).toList) == t203.toList) || (!(((rd_T32 t190 x15_5).f7) == t204))))))))) = true
                                    · rw [if_pos c35] at H
                                      have c35b0 : (!(((rd_T32 t190 x15_5).f0) == t197) || (!(((rd_T32 t190 x15_5).f1) == t198) || (!(((rd_T32 t190 x15_5).f2) == t199) || (!(((rd_T32 t190 x15_5).f3) == t200) || (!(((rd_T32 t190 x15_5).f4) == t201) || (!((((rd_T32 t190 x15_5).f5).toList) == t202.toList) || (!((((rd_T32 t190 x15_5).f6).toList) == t203.toList) || (!(((rd_T32 t190 x15_5).f7) == t204))))))))) = true := c35
                                      clear c35
                                      obtain rfl := Option.some.inj H
                                      obtain ⟨Ao36, co36, eo36⟩ := Kd.R_slice HO_12.out
                                      subst eo36
                                      try go_wp2
                                      have n0_ := Aside0.mk (Kd.R_drew HO_8.out)
                                      have n1_ := Aside0.mk (Kd.R_drew HO_12.out)
                                      have n2_ := Aside0.mk (below_drew1 HB.out)
                                      clear HO_8
                                      clear HO_12
                                      clear HB
                                      have HO_8 := n0_
                                      have HO_12 := n1_
                                      have HB := n2_
                                      clear n0_ n1_ n2_
                                      have p195 : 0 ≤ (x15_5 : Int) := of_decide_eq_true (by first | (with_reducible assumption) | assumption)
                                      have q195 : x15_5 < (t190.length : Int) := of_decide_eq_true (by first | (with_reducible assumption) | assumption)
                                      obtain ⟨ad195, e195, hx195_0, hx195_1, hx195_2, hx195_3, hx195_4, hx195_5, hx195_6, hx195_7⟩ := at_T32 (Kd.R_reads' HO_12.out).2.2 x15_5 p195 q195
                                      cases e195
                                      replace p195 := eq_true p195
                                      replace q195 := eq_true q195
                                      have p196 : 0 ≤ (x15_5 : Int) := of_decide_eq_true (by first | (with_reducible assumption) | assumption)
                                      have q196 : x15_5 < (x8_3.length : Int) := of_decide_eq_true (by first | (with_reducible assumption) | assumption)
                                      obtain ⟨ad196, e196, hx196_0, hx196_1, hx196_2, hx196_3, hx196_4, hx196_5, hx196_6, hx196_7⟩ := at_T32 (Kd.R_reads' HO_8.out).2.2 x15_5 p196 q196
                                      cases e196
                                      replace p196 := eq_true p196
                                      replace q196 := eq_true q196
                                      refine start_ (n := 10) (S := fun w' => w'.cell? (ad195.add ((x15_5).toNat * 8)) = some (.int .i64 ((rd_T32 t190 x15_5).f0)) ∧ w'.cell? ⟨(ad195.add ((x15_5).toNat * 8)).block, (ad195.add ((x15_5).toNat * 8)).off + 1, none⟩ = some (.int .i64 ((rd_T32 t190 x15_5).f1)) ∧ w'.cell? ⟨(ad195.add ((x15_5).toNat * 8)).block, (ad195.add ((x15_5).toNat * 8)).off + 2, none⟩ = some (.int .i64 ((rd_T32 t190 x15_5).f2)) ∧ w'.cell? ⟨(ad195.add ((x15_5).toNat * 8)).block, (ad195.add ((x15_5).toNat * 8)).off + 3, none⟩ = some (.int .i64 ((rd_T32 t190 x15_5).f3)) ∧ w'.cell? ⟨(ad195.add ((x15_5).toNat * 8)).block, (ad195.add ((x15_5).toNat * 8)).off + 4, none⟩ = some (.int .u64 ((rd_T32 t190 x15_5).f4)) ∧ w'.cell? ⟨(ad195.add ((x15_5).toNat * 8)).block, (ad195.add ((x15_5).toNat * 8)).off + 5, none⟩ = some (.string ((rd_T32 t190 x15_5).f5)) ∧ w'.cell? ⟨(ad195.add ((x15_5).toNat * 8)).block, (ad195.add ((x15_5).toNat * 8)).off + 6, none⟩ = some (.string ((rd_T32 t190 x15_5).f6)) ∧ w'.cell? ⟨(ad195.add ((x15_5).toNat * 8)).block, (ad195.add ((x15_5).toNat * 8)).off + 7, none⟩ = some (.bool ((rd_T32 t190 x15_5).f7)) ∧ w'.cell? (ad196.add ((x15_5).toNat * 8)) = some (.int .i64 ((rd_T32 x8_3 x15_5).f0)) ∧ w'.cell? ⟨(ad196.add ((x15_5).toNat * 8)).block, (ad196.add ((x15_5).toNat * 8)).off + 1, none⟩ = some (.int .i64 ((rd_T32 x8_3 x15_5).f1)) ∧ w'.cell? ⟨(ad196.add ((x15_5).toNat * 8)).block, (ad196.add ((x15_5).toNat * 8)).off + 2, none⟩ = some (.int .i64 ((rd_T32 x8_3 x15_5).f2)) ∧ w'.cell? ⟨(ad196.add ((x15_5).toNat * 8)).block, (ad196.add ((x15_5).toNat * 8)).off + 3, none⟩ = some (.int .i64 ((rd_T32 x8_3 x15_5).f3)) ∧ w'.cell? ⟨(ad196.add ((x15_5).toNat * 8)).block, (ad196.add ((x15_5).toNat * 8)).off + 4, none⟩ = some (.int .u64 ((rd_T32 x8_3 x15_5).f4)) ∧ w'.cell? ⟨(ad196.add ((x15_5).toNat * 8)).block, (ad196.add ((x15_5).toNat * 8)).off + 5, none⟩ = some (.string ((rd_T32 x8_3 x15_5).f5)) ∧ w'.cell? ⟨(ad196.add ((x15_5).toNat * 8)).block, (ad196.add ((x15_5).toNat * 8)).off + 6, none⟩ = some (.string ((rd_T32 x8_3 x15_5).f6)) ∧ w'.cell? ⟨(ad196.add ((x15_5).toNat * 8)).block, (ad196.add ((x15_5).toNat * 8)).off + 7, none⟩ = some (.bool ((rd_T32 x8_3 x15_5).f7))) (ds := []) #[false, false, false, false, false, false, false, false, false, false] (by kernel_rfl) rfl rfl ⟨hx195_0, hx195_1, hx195_2, hx195_3, hx195_4, hx195_5, hx195_6, hx195_7, hx196_0, hx196_1, hx196_2, hx196_3, hx196_4, hx196_5, hx196_6, hx196_7⟩ (fun hHeld => ?_); refine with_tabW gharrylaw25_SayAlls.tab25 gharrylaw25_SayAlls.bits25 (fun HT_ HW_ => ?_)
                                      generalize wr.drew = w37 at HO_8 HO_12 HB hx195_0 hx195_1 hx195_2 hx195_3 hx195_4 hx195_5 hx195_6 hx195_7 hx196_0 hx196_1 hx196_2 hx196_3 hx196_4 hx196_5 hx196_6 hx196_7 hHeld ⊢
                                      refine pure_ (i := 0) (N := some 106) (v := ?_) (a' := ?_) #[true, false, false, false, false, false, false, false, false, false] rfl rfl (any_of HT_.out (by kernel_rfl)) (fun _ _ _ h => h) (Or.inl ⟨by rfl, ?_⟩) ?_ ?_
                                      rotate_left
                                      · intro w'
                                        go_simp
                                        with_reducible rfl
                                      rotate_left
                                      · simp only [Act.put, List.setIfInBounds_toArray, List.set_cons_zero, List.set_cons_succ, i64_w, i32_w]
                                        rfl
                                      refine pure_ (i := 1) (N := some 107) (v := ?_) (a' := ?_) #[true, true, false, false, false, false, false, false, false, false] rfl rfl (any_of HT_.out (by kernel_rfl)) (fun _ _ _ h => h) (Or.inl ⟨by rfl, ?_⟩) ?_ ?_
                                      rotate_left
                                      · intro w'
                                        go_simp
                                        with_reducible rfl
                                      rotate_left
                                      · simp only [Act.put, List.setIfInBounds_toArray, List.set_cons_zero, List.set_cons_succ, i64_w, i32_w]
                                        rfl
                                      refine pure_ (i := 2) (N := some 108) (v := ?_) (a' := ?_) #[true, true, true, false, false, false, false, false, false, false] rfl rfl (any_of HT_.out (by kernel_rfl)) (fun _ _ _ h => h) (Or.inl ⟨by rfl, ?_⟩) ?_ ?_
                                      rotate_left
                                      · intro w'
                                        go_simp
                                        with_reducible rfl
                                      rotate_left
                                      · simp only [Act.put, List.setIfInBounds_toArray, List.set_cons_zero, List.set_cons_succ, i64_w, i32_w]
                                        rfl
                                      refine pure_ (i := 4) (N := some 110) (v := ?_) (a' := ?_) #[true, true, true, false, true, false, false, false, false, false] rfl rfl (any_of HT_.out (by kernel_rfl)) (fun _ _ _ h => h) (Or.inl ⟨by rfl, ?_⟩) ?_ ?_
                                      rotate_left
                                      · intro w'
                                        go_simp
                                        with_reducible rfl
                                      rotate_left
                                      · simp only [Act.put, List.setIfInBounds_toArray, List.set_cons_zero, List.set_cons_succ, i64_w, i32_w]
                                        rfl
                                      refine pure_ (i := 5) (N := some 111) (v := ?_) (a' := ?_) #[true, true, true, false, true, true, false, false, false, false] rfl rfl (any_of HT_.out (by kernel_rfl)) (fun _ _ _ h => h) (Or.inl ⟨by rfl, ?_⟩) ?_ ?_
                                      rotate_left
                                      · intro w'
                                        go_simp
                                        with_reducible rfl
                                      rotate_left
                                      · simp only [Act.put, List.setIfInBounds_toArray, List.set_cons_zero, List.set_cons_succ, i64_w, i32_w]
                                        rfl
                                      refine pure_ (i := 6) (N := some 112) (v := ?_) (a' := ?_) #[true, true, true, false, true, true, true, false, false, false] rfl rfl (any_of HT_.out (by kernel_rfl)) (fun _ _ _ h => h) (Or.inl ⟨by rfl, ?_⟩) ?_ ?_
                                      rotate_left
                                      · intro w'
                                        go_simp
                                        with_reducible rfl
                                      rotate_left
                                      · simp only [Act.put, List.setIfInBounds_toArray, List.set_cons_zero, List.set_cons_succ, i64_w, i32_w]
                                        rfl
                                      refine take_ (i := 3) (N := some 109) (v := ?_) (a' := ?_) #[true, true, true, true, true, true, true, false, false, false] rfl rfl (take_ofW HT_.out HW_.out (by kernel_rfl)) (fun _ _ _ h => h) (Or.inl ⟨by rfl, ?_⟩) hHeld ?_ ?_
                                      rotate_left
                                      · rintro w' ⟨s0, s1, s2, s3, s4, s5, s6, s7, s8, s9, s10, s11, s12, s13, s14, s15⟩
                                        go_simp
                                        with_reducible rfl
                                      rotate_left
                                      · simp only [Act.put, List.setIfInBounds_toArray, List.set_cons_zero, List.set_cons_succ, i64_w, i32_w]
                                        rfl
                                      refine take_ (i := 7) (N := some 113) (v := ?_) (a' := ?_) #[true, true, true, true, true, true, true, true, false, false] rfl rfl (take_ofW HT_.out HW_.out (by kernel_rfl)) (fun _ _ _ h => h) (Or.inl ⟨by rfl, ?_⟩) hHeld ?_ ?_
                                      rotate_left
                                      · rintro w' ⟨s0, s1, s2, s3, s4, s5, s6, s7, s8, s9, s10, s11, s12, s13, s14, s15⟩
                                        go_simp
                                        with_reducible rfl
                                      rotate_left
                                      · simp only [Act.put, List.setIfInBounds_toArray, List.set_cons_zero, List.set_cons_succ, i64_w, i32_w]
                                        rfl
                                      refine one_ (i := 8) (N := some 114) #[true, true, true, true, true, true, true, true, true, false] rfl rfl (one_of HT_.out (by kernel_rfl)) (by decide) (fun K hK => ?_)
                                      refine goes_ Tryd.func21 (by kernel_rfl) rfl #[.agg #[.int .i64 ((rd_T32 x8_3 x15_5).f0), .int .i64 ((rd_T32 x8_3 x15_5).f1), .int .i64 ((rd_T32 x8_3 x15_5).f2), .int .i64 ((rd_T32 x8_3 x15_5).f3), .int .u64 ((rd_T32 x8_3 x15_5).f4), .string ((rd_T32 x8_3 x15_5).f5), .string ((rd_T32 x8_3 x15_5).f6), .bool ((rd_T32 x8_3 x15_5).f7)]] (by rfl) rfl rfl (by (try simp only [List.map_toArray, List.map_cons, List.map_nil]); first | done | rfl | (simp only [List.length_drop, List.length_take]; rfl)) ?_
                                      with_reducible refine (gharryref25_Clean.calls k5 ((rd_T32 x8_3 x15_5).f0) ((rd_T32 x8_3 x15_5).f1) ((rd_T32 x8_3 x15_5).f2) ((rd_T32 x8_3 x15_5).f3) ((rd_T32 x8_3 x15_5).f4) ((rd_T32 x8_3 x15_5).f5) ((rd_T32 x8_3 x15_5).f6) ((rd_T32 x8_3 x15_5).f7) t197 t198 t199 t200 t201 t202 t203 t204 _ A34.out).mono ?_
                                      rintro e w38 ⟨rfl, hb⟩
                                      have HS0_ := (hb.cell (World.block_lt_of_cell? _ _ (hHeld.1))).trans (hHeld.1)
                                      have HS1_ := (hb.cell (World.block_lt_of_cell? _ _ (hHeld.2.1))).trans (hHeld.2.1)
                                      have HS2_ := (hb.cell (World.block_lt_of_cell? _ _ (hHeld.2.2.1))).trans (hHeld.2.2.1)
                                      have HS3_ := (hb.cell (World.block_lt_of_cell? _ _ (hHeld.2.2.2.1))).trans (hHeld.2.2.2.1)
                                      have HS4_ := (hb.cell (World.block_lt_of_cell? _ _ (hHeld.2.2.2.2.1))).trans (hHeld.2.2.2.2.1)
                                      have HS5_ := (hb.cell (World.block_lt_of_cell? _ _ (hHeld.2.2.2.2.2.1))).trans (hHeld.2.2.2.2.2.1)
                                      have HS6_ := (hb.cell (World.block_lt_of_cell? _ _ (hHeld.2.2.2.2.2.2.1))).trans (hHeld.2.2.2.2.2.2.1)
                                      have HS7_ := (hb.cell (World.block_lt_of_cell? _ _ (hHeld.2.2.2.2.2.2.2.1))).trans (hHeld.2.2.2.2.2.2.2.1)
                                      have HS8_ := (hb.cell (World.block_lt_of_cell? _ _ (hHeld.2.2.2.2.2.2.2.2.1))).trans (hHeld.2.2.2.2.2.2.2.2.1)
                                      have HS9_ := (hb.cell (World.block_lt_of_cell? _ _ (hHeld.2.2.2.2.2.2.2.2.2.1))).trans (hHeld.2.2.2.2.2.2.2.2.2.1)
                                      have HS10_ := (hb.cell (World.block_lt_of_cell? _ _ (hHeld.2.2.2.2.2.2.2.2.2.2.1))).trans (hHeld.2.2.2.2.2.2.2.2.2.2.1)
                                      have HS11_ := (hb.cell (World.block_lt_of_cell? _ _ (hHeld.2.2.2.2.2.2.2.2.2.2.2.1))).trans (hHeld.2.2.2.2.2.2.2.2.2.2.2.1)
                                      have HS12_ := (hb.cell (World.block_lt_of_cell? _ _ (hHeld.2.2.2.2.2.2.2.2.2.2.2.2.1))).trans (hHeld.2.2.2.2.2.2.2.2.2.2.2.2.1)
                                      have HS13_ := (hb.cell (World.block_lt_of_cell? _ _ (hHeld.2.2.2.2.2.2.2.2.2.2.2.2.2.1))).trans (hHeld.2.2.2.2.2.2.2.2.2.2.2.2.2.1)
                                      have HS14_ := (hb.cell (World.block_lt_of_cell? _ _ (hHeld.2.2.2.2.2.2.2.2.2.2.2.2.2.2.1))).trans (hHeld.2.2.2.2.2.2.2.2.2.2.2.2.2.2.1)
                                      have HS15_ := (hb.cell (World.block_lt_of_cell? _ _ (hHeld.2.2.2.2.2.2.2.2.2.2.2.2.2.2.2))).trans (hHeld.2.2.2.2.2.2.2.2.2.2.2.2.2.2.2)
                                      refine ⟨_, rfl, ?_⟩
                                      have n0_ := Aside0.mk (Kd.R_below (by (with_reducible repeat (first | apply Kd.R_alloc | apply Kd.R_drewN | apply Kd.R_drew)); exact HO_8.out) hb)
                                      have n1_ := Aside0.mk (Kd.R_below (by (with_reducible repeat (first | apply Kd.R_alloc | apply Kd.R_drewN | apply Kd.R_drew)); exact HO_12.out) hb)
                                      have n2_ := Aside0.mk (below_step (by repeat (first | (with_reducible first | exact HB.out | apply below_alloc | apply pw_below_drewN | apply below_drew1) | exact HB.out)) hb)
                                      clear HO_8
                                      clear HO_12
                                      clear HB
                                      have HO_8 := n0_
                                      have HO_12 := n1_
                                      have HB := n2_
                                      clear n0_ n1_ n2_
                                      (try clear hb)
                                      (try clear hb2)
                                      (try clear hk)
                                      (try clear hi)
                                      refine hK.out _ _ ⟨HS0_, HS1_, HS2_, HS3_, HS4_, HS5_, HS6_, HS7_, HS8_, HS9_, HS10_, HS11_, HS12_, HS13_, HS14_, HS15_⟩ (fun hHeld => ?_)
                                      clear hK K
                                      refine norm_ (a' := ?_) ?_ ?_
                                      rotate_left
                                      · show Act.put _ (some 114) _ = _
                                        simp only [Act.put, List.setIfInBounds_toArray, List.set_cons_zero, List.set_cons_succ, i64_w, i32_w]
                                        rfl
                                      refine pure_ (i := 9) (N := some 115) (v := ?_) (a' := ?_) #[true, true, true, true, true, true, true, true, true, true] rfl rfl (any_of HT_.out (by kernel_rfl)) (fun _ _ _ h => h) (Or.inl ⟨by rfl, ?_⟩) ?_ ?_
                                      rotate_left
                                      · intro w'
                                        go_simp
                                        with_reducible rfl
                                      rotate_left
                                      · simp only [Act.put, List.setIfInBounds_toArray, List.set_cons_zero, List.set_cons_succ, i64_w, i32_w]
                                        rfl
                                      refine done_ (done_of HT_.out (by kernel_rfl)) ?_
                                      try go_wp2
                                      go_ret
                                      exact ⟨by first | rfl | (simp [errW_none, errW_some] <;> rfl) | (simp [*, errW_none, errW_some] <;> rfl), by repeat (first | (with_reducible first | exact HB.out | apply below_alloc | apply pw_below_drewN | apply below_drew1) | exact HB.out)⟩
                                    · rw [if_neg c35] at H
                                      have c35b0 : (!(((rd_T32 t190 x15_5).f0) == t197) || (!(((rd_T32 t190 x15_5).f1) == t198) || (!(((rd_T32 t190 x15_5).f2) == t199) || (!(((rd_T32 t190 x15_5).f3) == t200) || (!(((rd_T32 t190 x15_5).f4) == t201) || (!((((rd_T32 t190 x15_5).f5).toList) == t202.toList) || (!((((rd_T32 t190 x15_5).f6).toList) == t203.toList) || (!(((rd_T32 t190 x15_5).f7) == t204))))))))) = false := by simpa using c35
                                      clear c35
                                      have H' := Aside0.mk H
                                      clear H
                                      obtain ⟨Ao39, co39, eo39⟩ := Kd.R_slice HO_12.out
                                      subst eo39
                                      try go_wp2
                                      have n0_ := Aside0.mk (Kd.R_drew HO_8.out)
                                      have n1_ := Aside0.mk (Kd.R_drew HO_12.out)
                                      have n2_ := Aside0.mk (below_drew1 HB.out)
                                      clear HO_8
                                      clear HO_12
                                      clear HB
                                      have HO_8 := n0_
                                      have HO_12 := n1_
                                      have HB := n2_
                                      clear n0_ n1_ n2_
                                      have p195 : 0 ≤ (x15_5 : Int) := of_decide_eq_true (by first | (with_reducible assumption) | assumption)
                                      have q195 : x15_5 < (t190.length : Int) := of_decide_eq_true (by first | (with_reducible assumption) | assumption)
                                      obtain ⟨ad195, e195, hx195_0, hx195_1, hx195_2, hx195_3, hx195_4, hx195_5, hx195_6, hx195_7⟩ := at_T32 (Kd.R_reads' HO_12.out).2.2 x15_5 p195 q195
                                      cases e195
                                      replace p195 := eq_true p195
                                      replace q195 := eq_true q195
                                      have p196 : 0 ≤ (x15_5 : Int) := of_decide_eq_true (by first | (with_reducible assumption) | assumption)
                                      have q196 : x15_5 < (x8_3.length : Int) := of_decide_eq_true (by first | (with_reducible assumption) | assumption)
                                      obtain ⟨ad196, e196, hx196_0, hx196_1, hx196_2, hx196_3, hx196_4, hx196_5, hx196_6, hx196_7⟩ := at_T32 (Kd.R_reads' HO_8.out).2.2 x15_5 p196 q196
                                      cases e196
                                      replace p196 := eq_true p196
                                      replace q196 := eq_true q196
                                      refine start_ (n := 10) (S := fun w' => w'.cell? (ad195.add ((x15_5).toNat * 8)) = some (.int .i64 ((rd_T32 t190 x15_5).f0)) ∧ w'.cell? ⟨(ad195.add ((x15_5).toNat * 8)).block, (ad195.add ((x15_5).toNat * 8)).off + 1, none⟩ = some (.int .i64 ((rd_T32 t190 x15_5).f1)) ∧ w'.cell? ⟨(ad195.add ((x15_5).toNat * 8)).block, (ad195.add ((x15_5).toNat * 8)).off + 2, none⟩ = some (.int .i64 ((rd_T32 t190 x15_5).f2)) ∧ w'.cell? ⟨(ad195.add ((x15_5).toNat * 8)).block, (ad195.add ((x15_5).toNat * 8)).off + 3, none⟩ = some (.int .i64 ((rd_T32 t190 x15_5).f3)) ∧ w'.cell? ⟨(ad195.add ((x15_5).toNat * 8)).block, (ad195.add ((x15_5).toNat * 8)).off + 4, none⟩ = some (.int .u64 ((rd_T32 t190 x15_5).f4)) ∧ w'.cell? ⟨(ad195.add ((x15_5).toNat * 8)).block, (ad195.add ((x15_5).toNat * 8)).off + 5, none⟩ = some (.string ((rd_T32 t190 x15_5).f5)) ∧ w'.cell? ⟨(ad195.add ((x15_5).toNat * 8)).block, (ad195.add ((x15_5).toNat * 8)).off + 6, none⟩ = some (.string ((rd_T32 t190 x15_5).f6)) ∧ w'.cell? ⟨(ad195.add ((x15_5).toNat * 8)).block, (ad195.add ((x15_5).toNat * 8)).off + 7, none⟩ = some (.bool ((rd_T32 t190 x15_5).f7)) ∧ w'.cell? (ad196.add ((x15_5).toNat * 8)) = some (.int .i64 ((rd_T32 x8_3 x15_5).f0)) ∧ w'.cell? ⟨(ad196.add ((x15_5).toNat * 8)).block, (ad196.add ((x15_5).toNat * 8)).off + 1, none⟩ = some (.int .i64 ((rd_T32 x8_3 x15_5).f1)) ∧ w'.cell? ⟨(ad196.add ((x15_5).toNat * 8)).block, (ad196.add ((x15_5).toNat * 8)).off + 2, none⟩ = some (.int .i64 ((rd_T32 x8_3 x15_5).f2)) ∧ w'.cell? ⟨(ad196.add ((x15_5).toNat * 8)).block, (ad196.add ((x15_5).toNat * 8)).off + 3, none⟩ = some (.int .i64 ((rd_T32 x8_3 x15_5).f3)) ∧ w'.cell? ⟨(ad196.add ((x15_5).toNat * 8)).block, (ad196.add ((x15_5).toNat * 8)).off + 4, none⟩ = some (.int .u64 ((rd_T32 x8_3 x15_5).f4)) ∧ w'.cell? ⟨(ad196.add ((x15_5).toNat * 8)).block, (ad196.add ((x15_5).toNat * 8)).off + 5, none⟩ = some (.string ((rd_T32 x8_3 x15_5).f5)) ∧ w'.cell? ⟨(ad196.add ((x15_5).toNat * 8)).block, (ad196.add ((x15_5).toNat * 8)).off + 6, none⟩ = some (.string ((rd_T32 x8_3 x15_5).f6)) ∧ w'.cell? ⟨(ad196.add ((x15_5).toNat * 8)).block, (ad196.add ((x15_5).toNat * 8)).off + 7, none⟩ = some (.bool ((rd_T32 x8_3 x15_5).f7))) (ds := []) #[false, false, false, false, false, false, false, false, false, false] (by kernel_rfl) rfl rfl ⟨hx195_0, hx195_1, hx195_2, hx195_3, hx195_4, hx195_5, hx195_6, hx195_7, hx196_0, hx196_1, hx196_2, hx196_3, hx196_4, hx196_5, hx196_6, hx196_7⟩ (fun hHeld => ?_); refine with_tabW gharrylaw25_SayAlls.tab25 gharrylaw25_SayAlls.bits25 (fun HT_ HW_ => ?_)
                                      generalize wr.drew = w40 at HO_8 HO_12 HB hx195_0 hx195_1 hx195_2 hx195_3 hx195_4 hx195_5 hx195_6 hx195_7 hx196_0 hx196_1 hx196_2 hx196_3 hx196_4 hx196_5 hx196_6 hx196_7 hHeld ⊢
                                      refine pure_ (i := 0) (N := some 106) (v := ?_) (a' := ?_) #[true, false, false, false, false, false, false, false, false, false] rfl rfl (any_of HT_.out (by kernel_rfl)) (fun _ _ _ h => h) (Or.inl ⟨by rfl, ?_⟩) ?_ ?_
                                      rotate_left
                                      · intro w'
                                        go_simp
                                        with_reducible rfl
                                      rotate_left
                                      · simp only [Act.put, List.setIfInBounds_toArray, List.set_cons_zero, List.set_cons_succ, i64_w, i32_w]
                                        rfl
                                      refine pure_ (i := 1) (N := some 107) (v := ?_) (a' := ?_) #[true, true, false, false, false, false, false, false, false, false] rfl rfl (any_of HT_.out (by kernel_rfl)) (fun _ _ _ h => h) (Or.inl ⟨by rfl, ?_⟩) ?_ ?_
                                      rotate_left
                                      · intro w'
                                        go_simp
                                        with_reducible rfl
                                      rotate_left
                                      · simp only [Act.put, List.setIfInBounds_toArray, List.set_cons_zero, List.set_cons_succ, i64_w, i32_w]
                                        rfl
                                      refine pure_ (i := 2) (N := some 108) (v := ?_) (a' := ?_) #[true, true, true, false, false, false, false, false, false, false] rfl rfl (any_of HT_.out (by kernel_rfl)) (fun _ _ _ h => h) (Or.inl ⟨by rfl, ?_⟩) ?_ ?_
                                      rotate_left
                                      · intro w'
                                        go_simp
                                        with_reducible rfl
                                      rotate_left
                                      · simp only [Act.put, List.setIfInBounds_toArray, List.set_cons_zero, List.set_cons_succ, i64_w, i32_w]
                                        rfl
                                      refine pure_ (i := 4) (N := some 110) (v := ?_) (a' := ?_) #[true, true, true, false, true, false, false, false, false, false] rfl rfl (any_of HT_.out (by kernel_rfl)) (fun _ _ _ h => h) (Or.inl ⟨by rfl, ?_⟩) ?_ ?_
                                      rotate_left
                                      · intro w'
                                        go_simp
                                        with_reducible rfl
                                      rotate_left
                                      · simp only [Act.put, List.setIfInBounds_toArray, List.set_cons_zero, List.set_cons_succ, i64_w, i32_w]
                                        rfl
                                      refine pure_ (i := 5) (N := some 111) (v := ?_) (a' := ?_) #[true, true, true, false, true, true, false, false, false, false] rfl rfl (any_of HT_.out (by kernel_rfl)) (fun _ _ _ h => h) (Or.inl ⟨by rfl, ?_⟩) ?_ ?_
                                      rotate_left
                                      · intro w'
                                        go_simp
                                        with_reducible rfl
                                      rotate_left
                                      · simp only [Act.put, List.setIfInBounds_toArray, List.set_cons_zero, List.set_cons_succ, i64_w, i32_w]
                                        rfl
                                      refine pure_ (i := 6) (N := some 112) (v := ?_) (a' := ?_) #[true, true, true, false, true, true, true, false, false, false] rfl rfl (any_of HT_.out (by kernel_rfl)) (fun _ _ _ h => h) (Or.inl ⟨by rfl, ?_⟩) ?_ ?_
                                      rotate_left
                                      · intro w'
                                        go_simp
                                        with_reducible rfl
                                      rotate_left
                                      · simp only [Act.put, List.setIfInBounds_toArray, List.set_cons_zero, List.set_cons_succ, i64_w, i32_w]
                                        rfl
                                      refine take_ (i := 3) (N := some 109) (v := ?_) (a' := ?_) #[true, true, true, true, true, true, true, false, false, false] rfl rfl (take_ofW HT_.out HW_.out (by kernel_rfl)) (fun _ _ _ h => h) (Or.inl ⟨by rfl, ?_⟩) hHeld ?_ ?_
                                      rotate_left
                                      · rintro w' ⟨s0, s1, s2, s3, s4, s5, s6, s7, s8, s9, s10, s11, s12, s13, s14, s15⟩
                                        go_simp
                                        with_reducible rfl
                                      rotate_left
                                      · simp only [Act.put, List.setIfInBounds_toArray, List.set_cons_zero, List.set_cons_succ, i64_w, i32_w]
                                        rfl
                                      refine take_ (i := 7) (N := some 113) (v := ?_) (a' := ?_) #[true, true, true, true, true, true, true, true, false, false] rfl rfl (take_ofW HT_.out HW_.out (by kernel_rfl)) (fun _ _ _ h => h) (Or.inl ⟨by rfl, ?_⟩) hHeld ?_ ?_
                                      rotate_left
                                      · rintro w' ⟨s0, s1, s2, s3, s4, s5, s6, s7, s8, s9, s10, s11, s12, s13, s14, s15⟩
                                        go_simp
                                        with_reducible rfl
                                      rotate_left
                                      · simp only [Act.put, List.setIfInBounds_toArray, List.set_cons_zero, List.set_cons_succ, i64_w, i32_w]
                                        rfl
                                      refine one_ (i := 8) (N := some 114) #[true, true, true, true, true, true, true, true, true, false] rfl rfl (one_of HT_.out (by kernel_rfl)) (by decide) (fun K hK => ?_)
                                      refine goes_ Tryd.func21 (by kernel_rfl) rfl #[.agg #[.int .i64 ((rd_T32 x8_3 x15_5).f0), .int .i64 ((rd_T32 x8_3 x15_5).f1), .int .i64 ((rd_T32 x8_3 x15_5).f2), .int .i64 ((rd_T32 x8_3 x15_5).f3), .int .u64 ((rd_T32 x8_3 x15_5).f4), .string ((rd_T32 x8_3 x15_5).f5), .string ((rd_T32 x8_3 x15_5).f6), .bool ((rd_T32 x8_3 x15_5).f7)]] (by rfl) rfl rfl (by (try simp only [List.map_toArray, List.map_cons, List.map_nil]); first | done | rfl | (simp only [List.length_drop, List.length_take]; rfl)) ?_
                                      with_reducible refine (gharryref25_Clean.calls k5 ((rd_T32 x8_3 x15_5).f0) ((rd_T32 x8_3 x15_5).f1) ((rd_T32 x8_3 x15_5).f2) ((rd_T32 x8_3 x15_5).f3) ((rd_T32 x8_3 x15_5).f4) ((rd_T32 x8_3 x15_5).f5) ((rd_T32 x8_3 x15_5).f6) ((rd_T32 x8_3 x15_5).f7) t197 t198 t199 t200 t201 t202 t203 t204 _ A34.out).mono ?_
                                      rintro e w41 ⟨rfl, hb⟩
                                      have HS0_ := (hb.cell (World.block_lt_of_cell? _ _ (hHeld.1))).trans (hHeld.1)
                                      have HS1_ := (hb.cell (World.block_lt_of_cell? _ _ (hHeld.2.1))).trans (hHeld.2.1)
                                      have HS2_ := (hb.cell (World.block_lt_of_cell? _ _ (hHeld.2.2.1))).trans (hHeld.2.2.1)
                                      have HS3_ := (hb.cell (World.block_lt_of_cell? _ _ (hHeld.2.2.2.1))).trans (hHeld.2.2.2.1)
                                      have HS4_ := (hb.cell (World.block_lt_of_cell? _ _ (hHeld.2.2.2.2.1))).trans (hHeld.2.2.2.2.1)
                                      have HS5_ := (hb.cell (World.block_lt_of_cell? _ _ (hHeld.2.2.2.2.2.1))).trans (hHeld.2.2.2.2.2.1)
                                      have HS6_ := (hb.cell (World.block_lt_of_cell? _ _ (hHeld.2.2.2.2.2.2.1))).trans (hHeld.2.2.2.2.2.2.1)
                                      have HS7_ := (hb.cell (World.block_lt_of_cell? _ _ (hHeld.2.2.2.2.2.2.2.1))).trans (hHeld.2.2.2.2.2.2.2.1)
                                      have HS8_ := (hb.cell (World.block_lt_of_cell? _ _ (hHeld.2.2.2.2.2.2.2.2.1))).trans (hHeld.2.2.2.2.2.2.2.2.1)
                                      have HS9_ := (hb.cell (World.block_lt_of_cell? _ _ (hHeld.2.2.2.2.2.2.2.2.2.1))).trans (hHeld.2.2.2.2.2.2.2.2.2.1)
                                      have HS10_ := (hb.cell (World.block_lt_of_cell? _ _ (hHeld.2.2.2.2.2.2.2.2.2.2.1))).trans (hHeld.2.2.2.2.2.2.2.2.2.2.1)
                                      have HS11_ := (hb.cell (World.block_lt_of_cell? _ _ (hHeld.2.2.2.2.2.2.2.2.2.2.2.1))).trans (hHeld.2.2.2.2.2.2.2.2.2.2.2.1)
                                      have HS12_ := (hb.cell (World.block_lt_of_cell? _ _ (hHeld.2.2.2.2.2.2.2.2.2.2.2.2.1))).trans (hHeld.2.2.2.2.2.2.2.2.2.2.2.2.1)
                                      have HS13_ := (hb.cell (World.block_lt_of_cell? _ _ (hHeld.2.2.2.2.2.2.2.2.2.2.2.2.2.1))).trans (hHeld.2.2.2.2.2.2.2.2.2.2.2.2.2.1)
                                      have HS14_ := (hb.cell (World.block_lt_of_cell? _ _ (hHeld.2.2.2.2.2.2.2.2.2.2.2.2.2.2.1))).trans (hHeld.2.2.2.2.2.2.2.2.2.2.2.2.2.2.1)
                                      have HS15_ := (hb.cell (World.block_lt_of_cell? _ _ (hHeld.2.2.2.2.2.2.2.2.2.2.2.2.2.2.2))).trans (hHeld.2.2.2.2.2.2.2.2.2.2.2.2.2.2.2)
                                      refine ⟨_, rfl, ?_⟩
                                      have n0_ := Aside0.mk (Kd.R_below (by (with_reducible repeat (first | apply Kd.R_alloc | apply Kd.R_drewN | apply Kd.R_drew)); exact HO_8.out) hb)
                                      have n1_ := Aside0.mk (Kd.R_below (by (with_reducible repeat (first | apply Kd.R_alloc | apply Kd.R_drewN | apply Kd.R_drew)); exact HO_12.out) hb)
                                      have n2_ := Aside0.mk (below_step (by repeat (first | (with_reducible first | exact HB.out | apply below_alloc | apply pw_below_drewN | apply below_drew1) | exact HB.out)) hb)
                                      clear HO_8
                                      clear HO_12
                                      clear HB
                                      have HO_8 := n0_
                                      have HO_12 := n1_
                                      have HB := n2_
                                      clear n0_ n1_ n2_
                                      (try clear hb)
                                      (try clear hb2)
                                      (try clear hk)
                                      (try clear hi)
                                      refine hK.out _ _ ⟨HS0_, HS1_, HS2_, HS3_, HS4_, HS5_, HS6_, HS7_, HS8_, HS9_, HS10_, HS11_, HS12_, HS13_, HS14_, HS15_⟩ (fun hHeld => ?_)
                                      clear hK K
                                      refine norm_ (a' := ?_) ?_ ?_
                                      rotate_left
                                      · show Act.put _ (some 114) _ = _
                                        simp only [Act.put, List.setIfInBounds_toArray, List.set_cons_zero, List.set_cons_succ, i64_w, i32_w]
                                        rfl
                                      refine pure_ (i := 9) (N := some 115) (v := ?_) (a' := ?_) #[true, true, true, true, true, true, true, true, true, true] rfl rfl (any_of HT_.out (by kernel_rfl)) (fun _ _ _ h => h) (Or.inl ⟨by rfl, ?_⟩) ?_ ?_
                                      rotate_left
                                      · intro w'
                                        go_simp
                                        with_reducible rfl
                                      rotate_left
                                      · simp only [Act.put, List.setIfInBounds_toArray, List.set_cons_zero, List.set_cons_succ, i64_w, i32_w]
                                        rfl
                                      refine done_ (done_of HT_.out (by kernel_rfl)) ?_
                                      try go_wp2
                                      go_roundg k5
                                      case measure => have := HK1.out; have := HJ1.out; have := HK3.out; have := HJ21.out; have := HK5.out; omega
                                      case rel => exact ⟨(wrap64 (x15_5 + 1)), (by first | rfl | (simp; done) | (simp [*]; done)), H', ⟨by have := HK1.out; have := HJ1.out; have := HK3.out; have := HJ21.out; have := HK5.out; omega⟩, ⟨by (with_reducible repeat (first | apply Kd.R_alloc | apply Kd.R_drewN | apply Kd.R_drew)); exact HO_8.out⟩, ⟨by (with_reducible repeat (first | apply Kd.R_alloc | apply Kd.R_drewN | apply Kd.R_drew)); exact HO_12.out⟩, ⟨by repeat (first | (with_reducible first | exact HB.out | apply below_alloc | apply pw_below_drewN | apply below_drew1) | exact HB.out)⟩⟩
                                  · rw [if_neg c33] at H
                                    exact absurd H (by simp)
                                · rw [if_neg c32] at H
                                  exact absurd H (by simp)
                              · rw [if_neg c31] at H
                                have c31b0 : decide (x15_5 < (t190.length : Int)) = false := decide_eq_false c31
                                clear c31
                                replace H := Option.bind_eq_some_iff.mp H
                                obtain ⟨t205, A420, H⟩ := H
                                replace H : (some t205) = some r := H
                                have A42 := Aside0.mk A420
                                clear A420
                                obtain rfl := Option.some.inj H
                                obtain ⟨Ao43, co43, eo43⟩ := Kd.R_slice HO_12.out
                                subst eo43
                                go_wp2_with (first | ((with_reducible refine gate_callee (f := 16) rfl ?_); refine goesL_ (some 116) rfl rfl Tryd.func16 (by kernel_rfl) rfl #[] rfl (by (try simp only [List.map_toArray, List.map_cons, List.map_nil]); first | done | rfl | (simp only [List.length_drop, List.length_take]; rfl)) ?_; (with_reducible refine (gharrylaw25_awake.calls  t205 _ A42.out).mono ?_); rintro e w44 ⟨rfl, hb⟩; refine ⟨_, rfl, ?_⟩; have n0_ := Aside0.mk (Kd.R_below (by (with_reducible repeat (first | apply Kd.R_alloc | apply Kd.R_drewN | apply Kd.R_drew)); exact HO_8.out) hb); have n1_ := Aside0.mk (Kd.R_below (by (with_reducible repeat (first | apply Kd.R_alloc | apply Kd.R_drewN | apply Kd.R_drew)); exact HO_12.out) hb); have n2_ := Aside0.mk (below_step (by repeat (first | (with_reducible first | exact HB.out | apply below_alloc | apply pw_below_drewN | apply below_drew1) | exact HB.out)) hb); clear HO_8; clear HO_12; clear HB; have HO_8 := n0_; have HO_12 := n1_; have HB := n2_; clear n0_ n1_ n2_; (try clear hb); (try clear hb2); (try clear hk); (try clear hi)))
                                go_ret
                                exact ⟨by first | rfl | (simp [errW_none, errW_some] <;> rfl) | (simp [*, errW_none, errW_some] <;> rfl), by repeat (first | (with_reducible first | exact HB.out | apply below_alloc | apply pw_below_drewN | apply below_drew1) | exact HB.out)⟩
                  · rw [if_neg c20] at H
                    have c20b0 : (x4_1 == 0) = false := beq_eq_false_iff_ne.mpr c20
                    have c20b1 : (x4_1 != 0) = true := bne_iff_ne.mpr c20
                    by_cases c45 : t187.toList = ([] : List UInt8)
                    · rw [if_pos c45] at H
                      have c45b0 : (t187.toList == ([] : List UInt8)) = true := beq_iff_eq.mpr c45
                      have c45b1 : (t187.toList != ([] : List UInt8)) = false := bne_eq_false_iff_eq.mpr c45
                      clear c45
                      by_cases c46 : t188 = x4_1
                      · rw [if_pos c46] at H
                        have c46b0 : (t188 == x4_1) = true := beq_iff_eq.mpr c46
                        have c46b1 : (t188 != x4_1) = false := bne_eq_false_iff_eq.mpr c46
                        clear c46
                        replace H := Option.bind_eq_some_iff.mp H
                        obtain ⟨t189, A470, H⟩ := H
                        replace H : (some t189) = some r := H
                        have A47 := Aside0.mk A470
                        clear A470
                        obtain rfl := Option.some.inj H
                        obtain ⟨Ao48, co48, eo48⟩ := Kd.R_slice HO_8.out
                        subst eo48
                        go_wp2_with (first | ((with_reducible refine gate_callee (f := 29) rfl ?_); refine goesL_ (some 61) rfl rfl Tryd.func29 (by kernel_rfl) rfl #[.slice Ao48 x8_3.length co48] rfl (by (try simp only [List.map_toArray, List.map_cons, List.map_nil]); first | done | rfl | (simp only [List.length_drop, List.length_take]; rfl)) ?_; (with_reducible refine (say_PrintAll.calls _ _ x8_3 t187 t188 _ ?side1 ?side2 A19.out).mono ?_); (case side1 => repeat (first | exact (Kd.R_reads' HO_8.out).2.2 | (with_reducible refine Kd.C_alloc ?_ _) | (with_reducible refine Kd.C_drewN ?_ _) | (with_reducible refine Kd.C_drew ?_))); (case side2 => exact (Kd.R_reads' HO_8.out).2.1); rintro e w49 ⟨rfl, hb⟩; refine ⟨_, rfl, ?_⟩; have n0_ := Aside0.mk (Kd.R_below (by (with_reducible repeat (first | apply Kd.R_alloc | apply Kd.R_drewN | apply Kd.R_drew)); exact HO_8.out) hb); have n1_ := Aside0.mk (below_step (by repeat (first | (with_reducible first | exact HB.out | apply below_alloc | apply pw_below_drewN | apply below_drew1) | exact HB.out)) hb); clear HO_8; clear HB; have HO_8 := n0_; have HB := n1_; clear n0_ n1_; (try clear hb); (try clear hb2); (try clear hk); (try clear hi)) | (go_at_call 16; (with_reducible refine (gharrylaw25_awake.calls  t189 _ A47.out).mono ?_); rintro e w50 ⟨rfl, hb⟩; have n0_ := Aside0.mk (Kd.R_below (by (with_reducible repeat (first | apply Kd.R_alloc | apply Kd.R_drewN | apply Kd.R_drew)); exact HO_8.out) hb); have n1_ := Aside0.mk (below_step (by repeat (first | (with_reducible first | exact HB.out | apply below_alloc | apply pw_below_drewN | apply below_drew1) | exact HB.out)) hb); clear HO_8; clear HB; have HO_8 := n0_; have HB := n1_; clear n0_ n1_; (try clear hb); (try clear hb2); (try clear hk); (try clear hi)))
                        go_ret
                        exact ⟨by first | rfl | (simp [errW_none, errW_some] <;> rfl) | (simp [*, errW_none, errW_some] <;> rfl), by repeat (first | (with_reducible first | exact HB.out | apply below_alloc | apply pw_below_drewN | apply below_drew1) | exact HB.out)⟩
                      · rw [if_neg c46] at H
                        have c46b0 : (t188 == x4_1) = false := beq_eq_false_iff_ne.mpr c46
                        have c46b1 : (t188 != x4_1) = true := bne_iff_ne.mpr c46
                        obtain rfl := Option.some.inj H
                        obtain ⟨Ao51, co51, eo51⟩ := Kd.R_slice HO_8.out
                        subst eo51
                        go_wp2_with (first | ((with_reducible refine gate_callee (f := 29) rfl ?_); refine goesL_ (some 61) rfl rfl Tryd.func29 (by kernel_rfl) rfl #[.slice Ao51 x8_3.length co51] rfl (by (try simp only [List.map_toArray, List.map_cons, List.map_nil]); first | done | rfl | (simp only [List.length_drop, List.length_take]; rfl)) ?_; (with_reducible refine (say_PrintAll.calls _ _ x8_3 t187 t188 _ ?side1 ?side2 A19.out).mono ?_); (case side1 => repeat (first | exact (Kd.R_reads' HO_8.out).2.2 | (with_reducible refine Kd.C_alloc ?_ _) | (with_reducible refine Kd.C_drewN ?_ _) | (with_reducible refine Kd.C_drew ?_))); (case side2 => exact (Kd.R_reads' HO_8.out).2.1); rintro e w52 ⟨rfl, hb⟩; refine ⟨_, rfl, ?_⟩; have n0_ := Aside0.mk (Kd.R_below (by (with_reducible repeat (first | apply Kd.R_alloc | apply Kd.R_drewN | apply Kd.R_drew)); exact HO_8.out) hb); have n1_ := Aside0.mk (below_step (by repeat (first | (with_reducible first | exact HB.out | apply below_alloc | apply pw_below_drewN | apply below_drew1) | exact HB.out)) hb); clear HO_8; clear HB; have HO_8 := n0_; have HB := n1_; clear n0_ n1_; (try clear hb); (try clear hb2); (try clear hk); (try clear hi)))
                        go_ret
                        exact ⟨by first | rfl | (simp [errW_none, errW_some] <;> rfl) | (simp [*, errW_none, errW_some] <;> rfl), by repeat (first | (with_reducible first | exact HB.out | apply below_alloc | apply pw_below_drewN | apply below_drew1) | exact HB.out)⟩
                    · rw [if_neg c45] at H
                      have c45b0 : (t187.toList == ([] : List UInt8)) = false := beq_eq_false_iff_ne.mpr c45
                      have c45b1 : (t187.toList != ([] : List UInt8)) = true := bne_iff_ne.mpr c45
                      obtain rfl := Option.some.inj H
                      obtain ⟨Ao53, co53, eo53⟩ := Kd.R_slice HO_8.out
                      subst eo53
                      go_wp2_with (first | ((with_reducible refine gate_callee (f := 29) rfl ?_); refine goesL_ (some 61) rfl rfl Tryd.func29 (by kernel_rfl) rfl #[.slice Ao53 x8_3.length co53] rfl (by (try simp only [List.map_toArray, List.map_cons, List.map_nil]); first | done | rfl | (simp only [List.length_drop, List.length_take]; rfl)) ?_; (with_reducible refine (say_PrintAll.calls _ _ x8_3 t187 t188 _ ?side1 ?side2 A19.out).mono ?_); (case side1 => repeat (first | exact (Kd.R_reads' HO_8.out).2.2 | (with_reducible refine Kd.C_alloc ?_ _) | (with_reducible refine Kd.C_drewN ?_ _) | (with_reducible refine Kd.C_drew ?_))); (case side2 => exact (Kd.R_reads' HO_8.out).2.1); rintro e w54 ⟨rfl, hb⟩; refine ⟨_, rfl, ?_⟩; have n0_ := Aside0.mk (Kd.R_below (by (with_reducible repeat (first | apply Kd.R_alloc | apply Kd.R_drewN | apply Kd.R_drew)); exact HO_8.out) hb); have n1_ := Aside0.mk (below_step (by repeat (first | (with_reducible first | exact HB.out | apply below_alloc | apply pw_below_drewN | apply below_drew1) | exact HB.out)) hb); clear HO_8; clear HB; have HO_8 := n0_; have HB := n1_; clear n0_ n1_; (try clear hb); (try clear hb2); (try clear hk); (try clear hi)))
                      go_ret
                      exact ⟨by first | rfl | (simp [errW_none, errW_some] <;> rfl) | (simp [*, errW_none, errW_some] <;> rfl), by repeat (first | (with_reducible first | exact HB.out | apply below_alloc | apply pw_below_drewN | apply below_drew1) | exact HB.out)⟩

end Go.Proofs.YtflbkgpmepfhlaaDoor.HSay
