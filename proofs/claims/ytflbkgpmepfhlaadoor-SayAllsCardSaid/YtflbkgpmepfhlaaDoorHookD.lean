/- The contract of say.Text: which text a word is, if it is one's. It proves no statement. -/
import Derived.Test.YtflbkgpmepfhlaaDoorHookC
import Derived.Test.YtflbkgpmepfhlaaDoorTextPure
import Derived.IntWalk
namespace Go.Proofs.YtflbkgpmepfhlaaDoor.Hook
open Go.RowKit Go.Proofs.YtflbkgpmepfhlaaDoorW.PrintWords Go.Proofs.YtflbkgpmepfhlaaDoorW.PrintLast Go.Proofs.YtflbkgpmepfhlaaDoorW.PrintMore Go.Proofs.YtflbkgpmepfhlaaDoor.SayPure
set_option linter.unusedVariables false

def say_Text.f (a0 : ByteArray) : Option (ByteArray × Int) := if a0.size ≤ 1000000 then (match text a0.data.toList with
  | some t => some (⟨t.toArray⟩, 0)
  | none => some (⟨#[]⟩, 4)) else none

theorem indexByte_hex (c : Int) (w : World) : Calls Tryd.prog 33 #[.string ⟨#[48, 49, 50, 51, 52, 53, 54, 55, 56, 57, 65, 66, 67, 68, 69, 70]⟩, .int .u8 c] w fun e w' => e = .returned (.int .i64 (hexI c.toNat.toUInt8)) ∧ w' = w := by
  refine (Tryd.strings_IndexByte _ c w).mono ?_
  rintro e w' ⟨rfl, rfl⟩
  refine ⟨?_, rfl⟩
  rw [← index_hex]
theorem drop_cons (l : List UInt8) (j : Nat) (h : j < l.length) : l.drop j = l[j] :: l.drop (j + 1) := List.drop_eq_getElem_cons h

set_option maxHeartbeats 4000000 in
set_option maxRecDepth 100000 in
theorem say_Text.calls (a0 : ByteArray) (r1 : ByteArray) (r2 : Int) (w : World) (h : say_Text.f a0 = some (r1, r2)) :
    Calls Tryd.prog 13 #[.string a0] w fun e w' => e = .returned (.tuple #[.string r1, .int .i64 r2]) ∧ Below w.heap.size w w' := by
  unfold say_Text.f at h
  split at h
  rotate_left
  · cases h
  rename_i hsz
  by_cases hz : a0.size = 0
  · obtain rfl : a0 = ⟨#[]⟩ := by
      cases a0 with
      | mk d => congr 1; exact Array.size_eq_zero_iff.1 hz
    obtain ⟨rfl, rfl⟩ : (⟨#[]⟩ : ByteArray) = r1 ∧ (4 : Int) = r2 := by simpa [text] using h
    clear h hz hsz
    go_enter Tryd.func13, Tryd.ntmps13
    go_wp2_with fail
    go_ret2
    exact ⟨rfl, Below.refl _ _⟩
  · have hl : 0 < a0.data.toList.length := by rw [data_length]; omega
    have hbt := byte_of_bt a0 0 (by omega)
    have h0 := drop_cons a0.data.toList 0 hl
    rw [List.drop_zero] at h0
    have hT : text a0.data.toList = if a0.data.toList[0] = 61 then body (a0.data.toList.drop 1) else none := by
      conv => lhs; rw [h0]
      rfl
    have hx := bt_at a0 0
    obtain ⟨hc0, hc1⟩ := bt_range a0 0
    have hne : a0.toList ≠ [] := by
      intro e
      have : a0.data.toList = [] := by rw [← e]; exact (Lib.toList_data a0).symm
      simp [this] at hl
    have hem : a0.toList.isEmpty = false := by cases hq : a0.toList with
      | nil => exact absurd hq hne
      | cons _ _ => rfl
    have hpos : (0 : Int) < (a0.size : Int) := by omega
    have hx0 : ∀ q : 0 < a0.size, ((a0[0]'q).toNat : Int) = bt a0 0 := fun q => hx q
    clear hx hne
    by_cases h61 : bt a0 0 = 61
    · have h61b : (bt a0 0 != 61) = false := by rw [h61]; rfl
      have : a0.data.toList[0] = 61 := by
        have e2 : bt a0 0 = ((a0.data.toList[0]).toNat : Int) := hbt
        rw [h61] at e2
        apply UInt8.toNat_inj.1
        have : (61 : UInt8).toNat = 61 := rfl
        omega
      rw [hT, if_pos this] at h
      obtain ⟨T, hTT⟩ : ∃ T, T = body (a0.data.toList.drop 1) := ⟨_, rfl⟩
      rw [← hTT] at h
      have HT := Aside0.mk hTT
      have H := Aside0.mk h
      clear h hT this h0 hbt hTT h61
      have HI0 := Aside0.mk (fresh_builder w)
      go_enter Tryd.func13, Tryd.ntmps13
      go_wp2_with fail
      go_loopw [5] (fun v wr => ∃ j : Int, ∃ acc : List UInt8, 1 ≤ j ∧ j ≤ (a0.size : Int) ∧ v = .int .i64 j ∧ Aside0 (T = (body (a0.data.toList.drop j.toNat)).map (acc ++ ·)) ∧ Aside0 (acc.length ≤ j.toNat) ∧ Aside0 (Lib.IsBuilder 60 5 w.heap.size w.heap.size (Lib.byteCells acc) wr) ∧ Aside0 (Below w.heap.size w wr)) (fun v _ => a0.size - (intOf v).toNat)
      case atStart => exact ⟨1, [], by omega, by omega, rfl, ⟨by rw [HT.out]; simp⟩, ⟨by simp⟩, HI0, ⟨(Below.refl _ _).alloc (Nat.le_refl _) _⟩⟩
      case round =>
        clear HT HI0
        obtain ⟨j, acc, hj1, hj, rfl, HT, HL, HI, HB⟩ := hrel
        by_cases hlt : j < (a0.size : Int)
        · obtain ⟨hd0, hd1⟩ := bt_range a0 j
          have hx := bt_at a0 j
          have hj0 : 0 ≤ j := by omega
          have b0 : decide (j < (a0.size : Int)) = true := decide_eq_true hlt
          have hk : j.toNat < a0.data.toList.length := by rw [data_length]; omega
          have hbt := byte_of_bt a0 j.toNat (by omega)
          rw [show ((j.toNat : Nat) : Int) = j from by omega] at hbt
          have HBT := Aside0.mk hbt
          have HD := Aside0.mk (drop_cons a0.data.toList j.toNat hk)
          clear hbt
          by_cases hbare : bareI (bt a0 j) = true
          · go_wp2_with fail
            refine (HBase.say_bare.calls (bt a0 j) true _ (by rw [bare_f, hbare])).mono ?_
            rintro e w3 ⟨rfl, ⟨nd, rfl⟩⟩
            go_wp2_with fail
            refine (writeByte _ _ _ (bt a0 j) (wr.drewN nd) (isBuilder_old (w' := wr.drewN nd) HI.out (fun _ _ => rfl)) ?l1 (HB.out.size)).mono ?_
            case l1 => rw [Lib.byteCells_length]; have := HL.out; omega
            rintro e w4 ⟨rfl, hI4, hb4, hk4⟩
            have HI4 := Aside0.mk hI4
            clear hI4 hk4
            go_wp2_with fail
            go_roundw
            case rel =>
              refine ⟨j + 1, acc ++ [a0.data.toList[j.toNat]], by omega, by omega, rfl, ⟨?_⟩, ⟨?_⟩, ⟨?_⟩, ⟨(pw_below_drewN HB.out nd).trans hb4⟩⟩
              · rw [HT.out, HD.out, body_bare _ (by rw [← HBT.out]; exact hbare), show (j + 1).toNat = j.toNat + 1 from by omega]
                simp [Option.map_map, Function.comp_def]
              · have := HL.out
                simp; omega
              · rw [Lib.byteCells_append]
                have := HI4.out
                rw [HBT.out] at this
                exact this
            case measure => simp [intOf]; omega
          · have hbare' : bareI (bt a0 j) = false := by simpa using hbare
            have hbody := Aside0.mk (show bareI (a0.data.toList[j.toNat].toNat : Int) = false by rw [← HBT.out]; exact hbare')
            by_cases h37 : bt a0 j = 37
            · have h37b : (bt a0 j != 37) = false := by rw [h37]; rfl
              have hc37 := Aside0.mk (show a0.data.toList[j.toNat] = 37 by
                have e2 := HBT.out
                rw [h37] at e2
                apply UInt8.toNat_inj.1
                have : (37 : UInt8).toNat = 37 := rfl
                omega)
              clear h37
              by_cases hshort : (a0.size : Int) ≤ j + 2
              · have hsb : decide ((a0.size : Int) ≤ j + 2) = true := decide_eq_true hshort
                have hsh := Aside0.mk (show (a0.data.toList.drop (j.toNat + 1)).length < 2 by rw [List.length_drop, data_length]; omega)
                obtain ⟨rfl, rfl⟩ : (⟨#[]⟩ : ByteArray) = r1 ∧ (4 : Int) = r2 := by
                  have hh := H.out
                  rw [HT.out, HD.out, hc37.out, body_short _ hsh.out] at hh
                  simpa using hh
                go_wp2_with fail
                refine (HBase.say_bare.calls (bt a0 j) false _ (by rw [bare_f, hbare'])).mono ?_
                rintro e w3 ⟨rfl, ⟨nd, rfl⟩⟩
                go_wp2_with fail
                go_ret2
                exact ⟨rfl, pw_below_drewN HB.out nd⟩
              · have hsb : decide ((a0.size : Int) ≤ j + 2) = false := decide_eq_false hshort
                have hj1' : j + 1 < (a0.size : Int) := by omega
                have hj2' : j + 2 < (a0.size : Int) := by omega
                have hk1 : j.toNat + 1 < a0.data.toList.length := by rw [data_length]; omega
                have hk2 : j.toNat + 1 + 1 < a0.data.toList.length := by rw [data_length]; omega
                have hx1 := bt_at a0 (j + 1)
                have hx2 := bt_at a0 (j + 2)
                rw [show (j + 1).toNat = j.toNat + 1 from by omega] at hx1
                rw [show (j + 2).toNat = j.toNat + 2 from by omega] at hx2
                have hb1 := byte_of_bt a0 (j.toNat + 1) (by omega)
                have hb2 := byte_of_bt a0 (j.toNat + 1 + 1) (by omega)
                rw [show ((j.toNat + 1 : Nat) : Int) = j + 1 from by omega] at hb1
                rw [show ((j.toNat + 1 + 1 : Nat) : Int) = j + 2 from by omega] at hb2
                have HB1 := Aside0.mk hb1
                have HB2 := Aside0.mk hb2
                clear hb1 hb2
                have HD1 := Aside0.mk (drop_cons a0.data.toList (j.toNat + 1) hk1)
                have HD2 := Aside0.mk (drop_cons a0.data.toList (j.toNat + 1 + 1) hk2)
                obtain ⟨X, hX⟩ : ∃ X, X = hexI (bt a0 (j + 1)).toNat.toUInt8 := ⟨_, rfl⟩
                obtain ⟨Y, hY⟩ : ∃ Y, Y = hexI (bt a0 (j + 2)).toNat.toUInt8 := ⟨_, rfl⟩
                have hc1 := fun W => indexByte_hex (bt a0 (j + 1)) W
                have hc2 := fun W => indexByte_hex (bt a0 (j + 2)) W
                rw [← hX] at hc1
                rw [← hY] at hc2
                have HC1 := Aside0.mk hc1
                have HC2 := Aside0.mk hc2
                have HX := Aside0.mk hX
                have HY := Aside0.mk hY
                clear hc1 hc2 hX hY
                go_wp2_with fail
                refine (HBase.say_bare.calls (bt a0 j) false _ (by rw [bare_f, hbare'])).mono ?_
                rintro e w3 ⟨rfl, ⟨nd, rfl⟩⟩
                go_wp2_with fail
                obtain ⟨w5, hw5⟩ : ∃ w5, w5 = wr.drewN nd := ⟨_, rfl⟩
                have HI5 : Aside0 (Lib.IsBuilder 60 5 w.heap.size w.heap.size (Lib.byteCells acc) w5) := ⟨by rw [hw5]; exact isBuilder_old (w' := wr.drewN nd) HI.out (fun _ _ => rfl)⟩
                have HB5 : Aside0 (Below w.heap.size w w5) := ⟨by rw [hw5]; exact pw_below_drewN HB.out nd⟩
                rw [← hw5]
                clear hw5
                have e1 : IntKind.i64.wrap (j + 1) = j + 1 := IntWalk.i64_in _ (by omega)
                have e2 : IntKind.i64.wrap (j + 2) = j + 2 := IntWalk.i64_in _ (by omega)
                have z1 : 0 ≤ j + 1 := by omega
                have z2 : 0 ≤ j + 2 := by omega
                have n1 : (j + 1).toNat = j.toNat + 1 := by omega
                have n2 : (j + 2).toNat = j.toNat + 2 := by omega
                go_quiet ((first | (go_at_call 33; exact Calls.quiet_of_same (HC1.out _)) | (go_at_call 33; exact Calls.quiet_of_same (HC2.out _))))
                clear e1 e2 n1 n2 hx1 hx2
                have hX1 : X = hexI a0.data.toList[j.toNat + 1] := by
                  rw [HX.out, HB1.out]
                  simp
                have hY1 : Y = hexI a0.data.toList[j.toNat + 1 + 1] := by
                  rw [HY.out, HB2.out]
                  simp
                have HX1 := Aside0.mk hX1
                have HY1 := Aside0.mk hY1
                clear hX1 hY1 HX HY HC1 HC2
                have HBD := Aside0.mk (body_hex a0.data.toList[j.toNat + 1] a0.data.toList[j.toNat + 1 + 1] (a0.data.toList.drop (j.toNat + 1 + 1 + 1)))
                rw [← HD2.out, ← HD1.out, ← hc37.out, ← HD.out] at HBD
                cases hvx : hexv a0.data.toList[j.toNat + 1] with
                | none =>
                  have hX2 := HX1.out
                  unfold hexI at hX2
                  rw [hvx] at hX2
                  subst hX2
                  have hbn := Aside0.mk (show body (a0.data.toList.drop j.toNat) = none by rw [HBD.out, hvx])
                  clear HX1 hvx HBD
                  obtain ⟨rfl, rfl⟩ : (⟨#[]⟩ : ByteArray) = r1 ∧ (4 : Int) = r2 := by
                    have hh := H.out
                    rw [HT.out, hbn.out] at hh
                    simpa using hh
                  go_wp2_with fail
                  go_ret2
                  exact ⟨rfl, pw_below_drewN HB5.out _⟩
                | some x =>
                  have hx16 := hexv_lt hvx
                  have hX2 := HX1.out
                  unfold hexI at hX2
                  rw [hvx] at hX2
                  simp only at hX2
                  subst hX2
                  have hxb : decide ((x : Int) < 0) = false := by simp
                  cases hvy : hexv a0.data.toList[j.toNat + 1 + 1] with
                  | none =>
                    have hY2 := HY1.out
                    unfold hexI at hY2
                    rw [hvy] at hY2
                    subst hY2
                    have hbn := Aside0.mk (show body (a0.data.toList.drop j.toNat) = none by rw [HBD.out, hvx, hvy])
                    clear HX1 HY1 hvx hvy HBD
                    obtain ⟨rfl, rfl⟩ : (⟨#[]⟩ : ByteArray) = r1 ∧ (4 : Int) = r2 := by
                      have hh := H.out
                      rw [HT.out, hbn.out] at hh
                      simpa using hh
                    go_wp2_with fail
                    go_ret2
                    exact ⟨rfl, pw_below_drewN HB5.out _⟩
                  | some y =>
                    have hy16 := hexv_lt hvy
                    have hY2 := HY1.out
                    unfold hexI at hY2
                    rw [hvy] at hY2
                    simp only at hY2
                    subst hY2
                    have hyb : decide ((y : Int) < 0) = false := by simp
                    obtain ⟨z, hz⟩ : ∃ z, z = 16 * x + y := ⟨_, rfl⟩
                    have hor := or_hex x y hx16 hy16
                    have hbn := Aside0.mk (show body (a0.data.toList.drop j.toNat) = if bareI ((16 * x + y : Nat) : Int) = true then none else (body (a0.data.toList.drop (j.toNat + 1 + 1 + 1))).map ((16 * x + y).toUInt8 :: ·) by rw [HBD.out, hvx, hvy])
                    rw [← hz] at hor hbn
                    have hz0 : (0 : Int) ≤ (z : Int) := by omega
                    have hz1 : (z : Int) ≤ 255 := by omega
                    clear HX1 HY1 hvx hvy HBD hz
                    by_cases hzb : bareI (z : Int) = true
                    · have hbn2 := hbn.out
                      rw [if_pos hzb] at hbn2
                      have hbn3 := Aside0.mk hbn2
                      clear hbn hbn2
                      obtain ⟨rfl, rfl⟩ : (⟨#[]⟩ : ByteArray) = r1 ∧ (4 : Int) = r2 := by
                        have hh := H.out
                        rw [HT.out, hbn3.out] at hh
                        simpa using hh
                      go_wp2_with fail
                      refine (HBase.say_bare.calls (z : Int) true _ (by rw [bare_f, hzb])).mono ?_
                      rintro e w3 ⟨rfl, ⟨nd2, rfl⟩⟩
                      go_wp2_with fail
                      go_ret2
                      exact ⟨rfl, by repeat (first | exact HB5.out | refine pw_below_drewN ?_ _)⟩
                    · have hzb' : bareI (z : Int) = false := by simpa using hzb
                      have hbn2 := hbn.out
                      rw [if_neg hzb] at hbn2
                      have hbn3 := Aside0.mk hbn2
                      clear hbn hbn2
                      go_wp2_with fail
                      refine (HBase.say_bare.calls (z : Int) false _ (by rw [bare_f, hzb'])).mono ?_
                      rintro e w3 ⟨rfl, ⟨nd2, rfl⟩⟩
                      go_wp2_with fail
                      refine (writeByte _ _ _ (z : Int) (w5.drewN (nq + nd2)) (isBuilder_old (w' := w5.drewN (nq + nd2)) HI5.out (fun _ _ => rfl)) ?l1 (HB5.out.size)).mono ?_
                      case l1 => rw [Lib.byteCells_length]; have := HL.out; omega
                      rintro e w6 ⟨rfl, hI6, hb6, hk6⟩
                      have HI6 := Aside0.mk hI6
                      have HB6 := Aside0.mk ((pw_below_drewN HB5.out (nq + nd2)).trans hb6)
                      clear hI6 hk6 hb6
                      go_wp2_with fail
                      go_roundw
                      case rel =>
                        refine ⟨j + 3, acc ++ [z.toUInt8], by omega, by omega, by go_num, ⟨?_⟩, ⟨?_⟩, ⟨?_⟩, HB6⟩
                        · rw [HT.out, hbn3.out, show (j + 3).toNat = j.toNat + 1 + 1 + 1 from by omega]
                          simp [Option.map_map, Function.comp_def]
                        · have := HL.out
                          simp; omega
                        · rw [Lib.byteCells_append]
                          have := HI6.out
                          have hzz : ((z.toUInt8.toNat : Nat) : Int) = (z : Int) := by
                            have : z < 256 := by omega
                            simp [Nat.toUInt8, UInt8.toNat_ofNat']
                            omega
                          rw [← hzz] at this
                          exact this
                      case measure => simp [intOf]; omega
            · have h37b : (bt a0 j != 37) = true := bne_iff_ne.2 h37
              have hc37 := Aside0.mk (show a0.data.toList[j.toNat] ≠ 37 by
                intro e
                apply h37
                rw [HBT.out, e]
                rfl)
              clear h37
              obtain ⟨rfl, rfl⟩ : (⟨#[]⟩ : ByteArray) = r1 ∧ (4 : Int) = r2 := by
                have hh := H.out
                rw [HT.out, HD.out, body_other _ hbody.out hc37.out] at hh
                simpa using hh
              go_wp2_with fail
              refine (HBase.say_bare.calls (bt a0 j) false _ (by rw [bare_f, hbare'])).mono ?_
              rintro e w3 ⟨rfl, ⟨nd, rfl⟩⟩
              go_wp2_with fail
              go_ret2
              exact ⟨rfl, pw_below_drewN HB.out nd⟩
        · have b0 : decide (j < (a0.size : Int)) = false := decide_eq_false hlt
          have hnil := Aside0.mk (show a0.data.toList.drop j.toNat = [] by rw [List.drop_eq_nil_iff, data_length]; omega)
          obtain ⟨rfl, rfl⟩ : (⟨acc.toArray⟩ : ByteArray) = r1 ∧ (0 : Int) = r2 := by
            have hh := H.out
            rw [HT.out, hnil.out] at hh
            simpa [body] using hh
          go_wp2_with fail
          refine (Tryd.Builder_String_any _ _ _ wr HI.out HB.out.size).mono ?_
          rintro e w3 ⟨rfl, hb3⟩
          go_wp2_with fail
          go_ret2
          exact ⟨rfl, HB.out.trans hb3⟩
    · have h61b : (bt a0 0 != 61) = true := bne_iff_ne.2 h61
      have : ¬ a0.data.toList[0] = 61 := by
        intro e
        apply h61
        have e2 : bt a0 0 = ((a0.data.toList[0]).toNat : Int) := hbt
        rw [e2, e]; rfl
      rw [hT, if_neg this] at h
      obtain ⟨rfl, rfl⟩ : (⟨#[]⟩ : ByteArray) = r1 ∧ (4 : Int) = r2 := by simpa using h
      clear h hT this h0 hbt
      go_enter Tryd.func13, Tryd.ntmps13
      go_wp2_with fail
      go_ret2
      exact ⟨rfl, Below.refl _ _⟩
end Go.Proofs.YtflbkgpmepfhlaaDoor.Hook
