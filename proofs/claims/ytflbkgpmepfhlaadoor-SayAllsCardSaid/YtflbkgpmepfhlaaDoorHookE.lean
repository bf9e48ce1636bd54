/- The contract of the reference's Text: which text a word is, if it is one's. It proves no statement. -/
import Derived.Test.YtflbkgpmepfhlaaDoorHookD
import Derived.IntWalk
namespace Go.Proofs.YtflbkgpmepfhlaaDoor.Hook
open Go.RowKit Go.Proofs.YtflbkgpmepfhlaaDoorW.PrintWords Go.Proofs.YtflbkgpmepfhlaaDoorW.PrintLast Go.Proofs.YtflbkgpmepfhlaaDoorW.PrintMore Go.Proofs.YtflbkgpmepfhlaaDoor.SayPure
set_option linter.unusedVariables false

theorem digit_f (c : Int) (h0 : 0 ≤ c) (h1 : c ≤ 255) : HBase.gharryref25_digit.f 1 c = some (hexI c.toNat.toUInt8) := by
  have key : ∀ n : Fin 256, HBase.gharryref25_digit.f 1 (n.val : Int) = some (hexI (UInt8.ofNat n.val)) := by decide +kernel
  obtain ⟨n, rfl⟩ := Int.eq_ofNat_of_zero_le h0
  exact key ⟨n, by omega⟩
theorem digit_calls (c : Int) (h0 : 0 ≤ c) (h1 : c ≤ 255) (w : World) : Calls Tryd.prog 35 #[.int .u8 c] w fun e w' => e = .returned (.int .i64 (hexI c.toNat.toUInt8)) ∧ ∃ m, w' = w.drewN m := by
  refine (HBase.gharryref25_digit.calls 1 c _ w (digit_f c h0 h1)).mono ?_
  rintro e w' ⟨rfl, ⟨h⟩⟩
  exact ⟨rfl, h⟩
theorem conv_one (W : World) (n : Nat) (c : Int) : (convert 58 9 (.slice (some ⟨W.heap.size, 0, none⟩) 1 1)).run Tryd.prog ((W.drewN n).alloc (.cells #[.int .u8 c] 5)) = .ok (.string (strOfNums [c])) ((W.drewN n).alloc (.cells #[.int .u8 c] 5)) := by
  have h := own_lit (W.drewN n) (W.drewN n).heap.size 5 .u8 [c] (Nat.le_refl _) (by simp)
  exact own_string (P := Tryd.prog) (e' := 5) Tryd.underlying58 Tryd.underlying5 Tryd.underlying9 h
theorem strOfNums_one (z : Nat) (h : z < 256) : strOfNums [(z : Int)] = ⟨[z.toUInt8].toArray⟩ := by
  unfold strOfNums
  simp

def gharryref25_Text.f (a0 : ByteArray) : Option (ByteArray × Bool) := if a0.size ≤ 1000000 then (match text a0.data.toList with
  | some t => some (⟨t.toArray⟩, true)
  | none => some (⟨#[]⟩, false)) else none

set_option maxHeartbeats 1600000 in
set_option maxRecDepth 100000 in
theorem gharryref25_Text.calls (a0 : ByteArray) (r1 : ByteArray) (r2 : Bool) (w : World) (h : gharryref25_Text.f a0 = some (r1, r2)) :
    Calls Tryd.prog 14 #[.string a0] w fun e w' => e = .returned (.tuple #[.string r1, .bool r2]) ∧ Below w.heap.size w w' := by
  unfold gharryref25_Text.f at h
  split at h
  rotate_left
  · cases h
  rename_i hsz
  by_cases hz : a0.size = 0
  · obtain rfl : a0 = ⟨#[]⟩ := by
      cases a0 with
      | mk d => congr 1; exact Array.size_eq_zero_iff.1 hz
    obtain ⟨rfl, rfl⟩ : (⟨#[]⟩ : ByteArray) = r1 ∧ false = r2 := by simpa [text] using h
    clear h hz hsz
    go_enter Tryd.func14, Tryd.ntmps14
    go_wp2_with fail
    go_ret2
    exact ⟨rfl, Below.refl _ _⟩
  · have hl : 0 < a0.data.toList.length := by rw [data_length]; omega
    have hbt := byte_of_bt a0 0 (by omega)
    have h0 := drop_cons a0.data.toList 0 hl
    rw [List.drop_zero] at h0
    have hT : text a0.data.toList = if a0.data.toList[0] = 61 then body (a0.data.toList.drop 1) else none := by
      conv => lhs; rw [h0]
      rfl
    have hx := bt_at a0 0
    obtain ⟨hc0, hc1⟩ := bt_range a0 0
    have hpos : (0 : Int) < (a0.size : Int) := by omega
    have hsz1 : decide ((a0.size : Int) < 1) = false := decide_eq_false (by omega)
    have hx0 : ∀ q : 0 < a0.size, ((a0[0]'q).toNat : Int) = bt a0 0 := fun q => hx q
    clear hx
    by_cases h61 : bt a0 0 = 61
    · have h61b : (bt a0 0 != 61) = false := by rw [h61]; rfl
      have : a0.data.toList[0] = 61 := by
        have e2 : bt a0 0 = ((a0.data.toList[0]).toNat : Int) := hbt
        rw [h61] at e2
        apply UInt8.toNat_inj.1
        have : (61 : UInt8).toNat = 61 := rfl
        omega
      rw [hT, if_pos this] at h
      obtain ⟨T, hTT⟩ : ∃ T, T = body (a0.data.toList.drop 1) := ⟨_, rfl⟩
      rw [← hTT] at h
      have HT := Aside0.mk hTT
      have H := Aside0.mk h
      clear h hT this h0 hbt hTT h61
      go_enter Tryd.func14, Tryd.ntmps14
      go_wp2_with fail
      go_loopw [4, 5] (fun o v wr => ∃ j : Int, ∃ acc : List UInt8, ∃ u : ByteArray, 1 ≤ j ∧ j ≤ (a0.size : Int) ∧ v = .int .i64 j ∧ o = .string u ∧ Aside0 (u = ⟨acc.toArray⟩) ∧ Aside0 (T = (body (a0.data.toList.drop j.toNat)).map (acc ++ ·)) ∧ Aside0 (acc.length ≤ j.toNat) ∧ Aside0 (Below w.heap.size w wr)) (fun _ v _ => a0.size - (intOf v).toNat)
      case atStart => exact ⟨1, [], _, by omega, by omega, rfl, rfl, ⟨rfl⟩, ⟨by rw [HT.out]; simp⟩, ⟨by simp⟩, ⟨Below.refl _ _⟩⟩
      case round =>
        clear HT
        obtain ⟨j, acc, u, hj1, hj, rfl, rfl, HU, HT, HL, HB⟩ := hrel
        have hus : u.size ≤ 1000000 := by
          rw [HU.out]
          have := HL.out
          simp [ByteArray.size]
          omega
        by_cases hlt : j < (a0.size : Int)
        · obtain ⟨hd0, hd1⟩ := bt_range a0 j
          have hx := bt_at a0 j
          have hj0 : 0 ≤ j := by omega
          have b0 : decide (j < (a0.size : Int)) = true := decide_eq_true hlt
          have hk : j.toNat < a0.data.toList.length := by rw [data_length]; omega
          have hbt := byte_of_bt a0 j.toNat (by omega)
          rw [show ((j.toNat : Nat) : Int) = j from by omega] at hbt
          have HBT := Aside0.mk hbt
          have HD := Aside0.mk (drop_cons a0.data.toList j.toNat hk)
          clear hbt
          by_cases hbare : bareI (bt a0 j) = true
          · have s0 := eq_true hj0
            have s1 := eq_true (show j ≤ j + 1 by omega)
            have s2 := eq_true (show j + 1 ≤ (a0.size : Int) by omega)
            have s3 := eq_true (show u.size + (a0.extract j.toNat (j + 1).toNat).size ≤ 9223372036854775807 by rw [ByteArray.size_extract]; omega)
            go_wp2_with fail
            refine (HBase.gharryref25_plain.calls (bt a0 j) true _ (by rw [plain_f, hbare])).mono ?_
            rintro e w3 ⟨rfl, ⟨nd, rfl⟩⟩
            go_wp2_with fail
            go_roundw
            case rel =>
              refine ⟨j + 1, acc ++ [a0.data.toList[j.toNat]], _, by omega, by omega, rfl, rfl, ⟨?_⟩, ⟨?_⟩, ⟨?_⟩, ⟨pw_below_drewN HB.out nd⟩⟩
              · rw [HU.out, ← append_toArray]
                congr 1
                have := extract_one a0 j hj0 hlt hk
                exact this
              · rw [HT.out, HD.out, body_bare _ (by rw [← HBT.out]; exact hbare), show (j + 1).toNat = j.toNat + 1 from by omega]
                simp [Option.map_map, Function.comp_def]
              · have := HL.out
                simp; omega
            case measure => simp [intOf]; omega
          · have hbare' : bareI (bt a0 j) = false := by simpa using hbare
            have hbody := Aside0.mk (show bareI (a0.data.toList[j.toNat].toNat : Int) = false by rw [← HBT.out]; exact hbare')
            by_cases h37 : bt a0 j = 37
            · have h37b : (bt a0 j != 37) = false := by rw [h37]; rfl
              have hc37 := Aside0.mk (show a0.data.toList[j.toNat] = 37 by
                have e2 := HBT.out
                rw [h37] at e2
                apply UInt8.toNat_inj.1
                have : (37 : UInt8).toNat = 37 := rfl
                omega)
              clear h37
              by_cases hshort : (a0.size : Int) ≤ j + 2
              · have hsb : decide ((a0.size : Int) ≤ j + 2) = true := decide_eq_true hshort
                have hsh := Aside0.mk (show (a0.data.toList.drop (j.toNat + 1)).length < 2 by rw [List.length_drop, data_length]; omega)
                obtain ⟨rfl, rfl⟩ : (⟨#[]⟩ : ByteArray) = r1 ∧ false = r2 := by
                  have hh := H.out
                  rw [HT.out, HD.out, hc37.out, body_short _ hsh.out] at hh
                  simpa using hh
                go_wp2_with fail
                refine (HBase.gharryref25_plain.calls (bt a0 j) false _ (by rw [plain_f, hbare'])).mono ?_
                rintro e w3 ⟨rfl, ⟨nd, rfl⟩⟩
                go_wp2_with fail
                go_ret2
                exact ⟨rfl, by repeat (first | exact HB.out | refine pw_below_drewN ?_ _)⟩
              · have hsb : decide ((a0.size : Int) ≤ j + 2) = false := decide_eq_false hshort
                have hj1' : j + 1 < (a0.size : Int) := by omega
                have hj2' : j + 2 < (a0.size : Int) := by omega
                have hk1 : j.toNat + 1 < a0.data.toList.length := by rw [data_length]; omega
                have hk2 : j.toNat + 1 + 1 < a0.data.toList.length := by rw [data_length]; omega
                have hx1 := bt_at a0 (j + 1)
                have hx2 := bt_at a0 (j + 2)
                have hx1' := bt_at a0 (j + 1)
                have hx2' := bt_at a0 (j + 2)
                rw [show (j + 1).toNat = j.toNat + 1 from by omega] at hx1'
                rw [show (j + 2).toNat = j.toNat + 2 from by omega] at hx2'
                have hb1 := byte_of_bt a0 (j.toNat + 1) (by omega)
                have hb2 := byte_of_bt a0 (j.toNat + 1 + 1) (by omega)
                rw [show ((j.toNat + 1 : Nat) : Int) = j + 1 from by omega] at hb1
                rw [show ((j.toNat + 1 + 1 : Nat) : Int) = j + 2 from by omega] at hb2
                have HB1 := Aside0.mk hb1
                have HB2 := Aside0.mk hb2
                clear hb1 hb2
                have HD1 := Aside0.mk (drop_cons a0.data.toList (j.toNat + 1) hk1)
                have HD2 := Aside0.mk (drop_cons a0.data.toList (j.toNat + 1 + 1) hk2)
                obtain ⟨X, hX⟩ : ∃ X, X = hexI (bt a0 (j + 1)).toNat.toUInt8 := ⟨_, rfl⟩
                obtain ⟨Y, hY⟩ : ∃ Y, Y = hexI (bt a0 (j + 2)).toNat.toUInt8 := ⟨_, rfl⟩
                have hc1 := fun W => digit_calls (bt a0 (j + 1)) (bt_range a0 (j + 1)).1 (bt_range a0 (j + 1)).2 W
                have hc2 := fun W => digit_calls (bt a0 (j + 2)) (bt_range a0 (j + 2)).1 (bt_range a0 (j + 2)).2 W
                rw [← hX] at hc1
                rw [← hY] at hc2
                have HC1 := Aside0.mk hc1
                have HC2 := Aside0.mk hc2
                have hX1 : X = hexI a0.data.toList[j.toNat + 1] := by
                  rw [hX, HB1.out]
                  simp
                have hY1 : Y = hexI a0.data.toList[j.toNat + 1 + 1] := by
                  rw [hY, HB2.out]
                  simp
                have HX1 := Aside0.mk hX1
                have HY1 := Aside0.mk hY1
                clear hX1 hY1 hc1 hc2 hX hY
                have HBD := Aside0.mk (body_hex a0.data.toList[j.toNat + 1] a0.data.toList[j.toNat + 1 + 1] (a0.data.toList.drop (j.toNat + 1 + 1 + 1)))
                rw [← HD2.out, ← HD1.out, ← hc37.out, ← HD.out] at HBD
                cases hvx : hexv a0.data.toList[j.toNat + 1] with
                | none =>
                  have hX2 := HX1.out
                  unfold hexI at hX2
                  rw [hvx] at hX2
                  subst hX2
                  have hbn := Aside0.mk (show body (a0.data.toList.drop j.toNat) = none by rw [HBD.out, hvx])
                  clear HX1 hvx HBD
                  obtain ⟨rfl, rfl⟩ : (⟨#[]⟩ : ByteArray) = r1 ∧ false = r2 := by
                    have hh := H.out
                    rw [HT.out, hbn.out] at hh
                    simpa using hh
                  go_wp2_with fail
                  refine (HBase.gharryref25_plain.calls (bt a0 j) false _ (by rw [plain_f, hbare'])).mono ?_
                  rintro e w3 ⟨rfl, ⟨nd, rfl⟩⟩
                  go_wp2_with fail
                  refine (HC1.out _).mono ?_
                  rintro e w4 ⟨rfl, ⟨nd2, rfl⟩⟩
                  go_wp2_with fail
                  go_ret2
                  exact ⟨rfl, by repeat (first | exact HB.out | refine pw_below_drewN ?_ _)⟩
                | some x =>
                  have hx16 := hexv_lt hvx
                  have hX2 := HX1.out
                  unfold hexI at hX2
                  rw [hvx] at hX2
                  simp only at hX2
                  subst hX2
                  have hxb : decide ((x : Int) < 0) = false := by simp
                  cases hvy : hexv a0.data.toList[j.toNat + 1 + 1] with
                  | none =>
                    have hY2 := HY1.out
                    unfold hexI at hY2
                    rw [hvy] at hY2
                    subst hY2
                    have hbn := Aside0.mk (show body (a0.data.toList.drop j.toNat) = none by rw [HBD.out, hvx, hvy])
                    clear HX1 HY1 hvx hvy HBD
                    obtain ⟨rfl, rfl⟩ : (⟨#[]⟩ : ByteArray) = r1 ∧ false = r2 := by
                      have hh := H.out
                      rw [HT.out, hbn.out] at hh
                      simpa using hh
                    go_wp2_with fail
                    refine (HBase.gharryref25_plain.calls (bt a0 j) false _ (by rw [plain_f, hbare'])).mono ?_
                    rintro e w3 ⟨rfl, ⟨nd, rfl⟩⟩
                    go_wp2_with fail
                    refine (HC1.out _).mono ?_
                    rintro e w4 ⟨rfl, ⟨nd2, rfl⟩⟩
                    go_wp2_with fail
                    refine (HC2.out _).mono ?_
                    rintro e w4 ⟨rfl, ⟨nd3, rfl⟩⟩
                    go_wp2_with fail
                    go_ret2
                    exact ⟨rfl, by repeat (first | exact HB.out | refine pw_below_drewN ?_ _)⟩
                  | some y =>
                    have hy16 := hexv_lt hvy
                    have hY2 := HY1.out
                    unfold hexI at hY2
                    rw [hvy] at hY2
                    simp only at hY2
                    subst hY2
                    have hyb : decide ((y : Int) < 0) = false := by simp
                    obtain ⟨z, hz⟩ : ∃ z, z = 16 * x + y := ⟨_, rfl⟩
                    have hbn := Aside0.mk (show body (a0.data.toList.drop j.toNat) = if bareI ((16 * x + y : Nat) : Int) = true then none else (body (a0.data.toList.drop (j.toNat + 1 + 1 + 1))).map ((16 * x + y).toUInt8 :: ·) by rw [HBD.out, hvx, hvy])
                    rw [← hz] at hbn
                    have hz0 : (0 : Int) ≤ (z : Int) := by omega
                    have hz1 : (z : Int) ≤ 255 := by omega
                    clear HX1 HY1 hvx hvy HBD
                    go_wp2_with fail
                    refine (HBase.gharryref25_plain.calls (bt a0 j) false _ (by rw [plain_f, hbare'])).mono ?_
                    rintro e w3 ⟨rfl, ⟨nd, rfl⟩⟩
                    go_wp2_with fail
                    refine (HC1.out _).mono ?_
                    rintro e w4 ⟨rfl, ⟨nd2, rfl⟩⟩
                    go_wp2_with fail
                    refine (HC2.out _).mono ?_
                    rintro e w4 ⟨rfl, ⟨nd3, rfl⟩⟩
                    go_wp2_with fail
                    obtain ⟨w5, hw5⟩ : ∃ w5, w5 = wr.drewN (nd + nd2 + nd3) := ⟨_, rfl⟩
                    have HB5 : Aside0 (Below w.heap.size w w5) := ⟨by rw [hw5]; exact pw_below_drewN HB.out _⟩
                    rw [← hw5]
                    clear hw5
                    have e1 : IntKind.i64.wrap (j + 1) = j + 1 := IntWalk.i64_in _ (by omega)
                    have e2 : IntKind.i64.wrap (j + 2) = j + 2 := IntWalk.i64_in _ (by omega)
                    have e3 : IntKind.i64.wrap (16 * (x : Int)) = 16 * (x : Int) := IntWalk.i64_in _ (by omega)
                    have e4 : IntKind.i64.wrap (16 * (x : Int) + (y : Int)) = (z : Int) := by rw [hz, IntWalk.i64_in _ (by omega)]; omega
                    have e5 : IntKind.u8.wrap (z : Int) = (z : Int) := IntWalk.u8_in _ (by omega)
                    clear hz
                    have z1 : 0 ≤ j + 1 := by omega
                    have z2 : 0 ≤ j + 2 := by omega
                    have n1 : (j + 1).toNat = j.toNat + 1 := by omega
                    have n2 : (j + 2).toNat = j.toNat + 2 := by omega
                    clear hx1 hx2
                    go_quiet ((first | (go_at_call 35; with_reducible exact Calls.quiet_of (HC1.out _)) | (go_at_call 35; with_reducible exact Calls.quiet_of (HC2.out _))))
                    clear e1 e2 e3 e4 e5 n1 n2
                    by_cases hzb : bareI (z : Int) = true
                    · have hbn2 := hbn.out
                      rw [if_pos hzb] at hbn2
                      have hbn3 := Aside0.mk hbn2
                      clear hbn hbn2
                      obtain ⟨rfl, rfl⟩ : (⟨#[]⟩ : ByteArray) = r1 ∧ false = r2 := by
                        have hh := H.out
                        rw [HT.out, hbn3.out] at hh
                        simpa using hh
                      go_wp2_with fail
                      refine (HBase.gharryref25_plain.calls (z : Int) true _ (by rw [plain_f, hzb])).mono ?_
                      rintro e w3 ⟨rfl, ⟨nd5, rfl⟩⟩
                      go_wp2_with fail
                      go_ret2
                      exact ⟨rfl, by repeat (first | exact HB5.out | refine pw_below_drewN ?_ _)⟩
                    · have hzb' : bareI (z : Int) = false := by simpa using hzb
                      have hbn2 := hbn.out
                      rw [if_neg hzb] at hbn2
                      have hbn3 := Aside0.mk hbn2
                      have hcv := conv_one w5
                      have hso := strOfNums_one z (by omega)
                      clear hbn hbn2
                      go_wp2_with fail
                      refine (HBase.gharryref25_plain.calls (z : Int) false _ (by rw [plain_f, hzb'])).mono ?_
                      rintro e w3 ⟨rfl, ⟨nd5, rfl⟩⟩
                      have t1 : u.size + 1 ≤ 9223372036854775807 := by omega
                      go_wp2_with fail
                      go_roundw
                      case rel =>
                        refine ⟨j + 3, acc ++ [z.toUInt8], _, by omega, by omega, by go_num, rfl, ⟨?_⟩, ⟨?_⟩, ⟨?_⟩, ⟨?_⟩⟩
                        · rw [HU.out, ← append_toArray]
                        · rw [HT.out, hbn3.out, show (j + 3).toNat = j.toNat + 1 + 1 + 1 from by omega]
                          simp [Option.map_map, Function.comp_def]
                        · have := HL.out
                          simp; omega
                        · exact (pw_below_drewN HB5.out _).alloc HB5.out.size _
                      case measure => simp [intOf]; omega
            · have h37b : (bt a0 j != 37) = true := bne_iff_ne.2 h37
              have hc37 := Aside0.mk (show a0.data.toList[j.toNat] ≠ 37 by
                intro e
                apply h37
                rw [HBT.out, e]
                rfl)
              clear h37
              obtain ⟨rfl, rfl⟩ : (⟨#[]⟩ : ByteArray) = r1 ∧ false = r2 := by
                have hh := H.out
                rw [HT.out, HD.out, body_other _ hbody.out hc37.out] at hh
                simpa using hh
              go_wp2_with fail
              refine (HBase.gharryref25_plain.calls (bt a0 j) false _ (by rw [plain_f, hbare'])).mono ?_
              rintro e w3 ⟨rfl, ⟨nd, rfl⟩⟩
              go_wp2_with fail
              go_ret2
              exact ⟨rfl, by repeat (first | exact HB.out | refine pw_below_drewN ?_ _)⟩
        · have b0 : decide (j < (a0.size : Int)) = false := decide_eq_false hlt
          have hnil := Aside0.mk (show a0.data.toList.drop j.toNat = [] by rw [List.drop_eq_nil_iff, data_length]; omega)
          obtain ⟨rfl, rfl⟩ : (⟨acc.toArray⟩ : ByteArray) = r1 ∧ true = r2 := by
            have hh := H.out
            rw [HT.out, hnil.out] at hh
            simpa [body] using hh
          have hu := HU.out
          subst hu
          go_wp2_with fail
          go_ret2
          exact ⟨rfl, HB.out⟩
    · have h61b : (bt a0 0 != 61) = true := bne_iff_ne.2 h61
      have : ¬ a0.data.toList[0] = 61 := by
        intro e
        apply h61
        have e2 : bt a0 0 = ((a0.data.toList[0]).toNat : Int) := hbt
        rw [e2, e]; rfl
      rw [hT, if_neg this] at h
      obtain ⟨rfl, rfl⟩ : (⟨#[]⟩ : ByteArray) = r1 ∧ false = r2 := by simpa using h
      clear h hT this h0 hbt
      go_enter Tryd.func14, Tryd.ntmps14
      go_wp2_with fail
      go_ret2
      exact ⟨rfl, Below.refl _ _⟩
end Go.Proofs.YtflbkgpmepfhlaaDoor.Hook
