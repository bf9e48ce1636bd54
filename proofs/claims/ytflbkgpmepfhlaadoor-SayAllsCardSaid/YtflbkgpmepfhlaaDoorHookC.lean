/- The contract of the reference's Word: it writes a text as its word. It proves no statement. -/
import Derived.Test.YtflbkgpmepfhlaaDoorHookB
import Derived.Test.YtflbkgpmepfhlaaDoorHBasex3
import Derived.WalkSpells
import Derived.Deep.QuietTactic
import Derived.BigQuiet
namespace Go.Proofs.YtflbkgpmepfhlaaDoor.Hook
open Go.RowKit Go.Proofs.YtflbkgpmepfhlaaDoorW.PrintWords Go.Proofs.YtflbkgpmepfhlaaDoorW.PrintLast Go.Proofs.YtflbkgpmepfhlaaDoorW.PrintMore Go.Proofs.YtflbkgpmepfhlaaDoor.SayPure
set_option linter.unusedVariables false

theorem plain_f (c : Int) : HBase.gharryref25_plain.f c = some (bareI c) := by
  unfold HBase.gharryref25_plain.f bareI
  repeat' split
  all_goals (first | (congr 1; symm; simp; omega) | (congr 1; rw [Bool.eq_iff_iff]; simp; omega))

theorem size_word (l : List UInt8) : (⟨(word l).toArray⟩ : ByteArray).size ≤ 1 + 3 * l.length := by
  have := word_le l
  simpa [ByteArray.size] using this

theorem extract_one (s : ByteArray) (j : Int) (h0 : 0 ≤ j) (h : j < (s.size : Int)) : ∀ q : j.toNat < s.data.toList.length, s.extract j.toNat (j + 1).toNat = ⟨[s.data.toList[j.toNat]].toArray⟩ := by
  intro q
  rw [Lib.extract_eq, show (j + 1).toNat - j.toNat = 1 from by omega, List.drop_eq_getElem_cons q]
  simp

def hexS : ByteArray := ⟨#[48, 49, 50, 51, 52, 53, 54, 55, 56, 57, 65, 66, 67, 68, 69, 70]⟩
theorem hex_cut (n : Nat) (h : n < 16) : (⟨#[48, 49, 50, 51, 52, 53, 54, 55, 56, 57, 65, 66, 67, 68, 69, 70]⟩ : ByteArray).extract n (n + 1) = ⟨[hexd n].toArray⟩ := by
  have key : ∀ m : Fin 16, (([48, 49, 50, 51, 52, 53, 54, 55, 56, 57, 65, 66, 67, 68, 69, 70] : List UInt8).drop m.val).take (m.val + 1 - m.val) = [hexd m.val] := by decide
  rw [Lib.extract_eq]
  have := key ⟨n, h⟩
  simp only at this
  rw [← this]

def gharryref25_Word.f (a0 : ByteArray) : Option ByteArray := if a0.size ≤ 1000000 then some ⟨(word a0.data.toList).toArray⟩ else none

theorem append_toArray (a b : List UInt8) : (⟨a.toArray⟩ : ByteArray) ++ ⟨b.toArray⟩ = ⟨(a ++ b).toArray⟩ := by
  apply ByteArray.ext
  simp

set_option maxHeartbeats 4000000 in
set_option maxRecDepth 100000 in
theorem gharryref25_Word.calls (a0 : ByteArray) (r : ByteArray) (w : World) (h : gharryref25_Word.f a0 = some r) :
    Calls Tryd.prog 15 #[.string a0] w fun e w' => e = .returned (.string r) ∧ Drawn0 w w' := by
  unfold gharryref25_Word.f at h
  split at h
  rotate_left
  · cases h
  rename_i hsz
  obtain rfl := Option.some.inj h
  clear h
  go_enter Tryd.func15, Tryd.ntmps15
  go_wp2_with fail
  go_loopw [4, 5] (fun o v wr => ∃ j : Int, ∃ u : ByteArray, 0 ≤ j ∧ j ≤ (a0.size : Int) ∧ v = .int .i64 j ∧ o = .string u ∧ Aside0 (u = ⟨(word (a0.data.toList.take j.toNat)).toArray⟩) ∧ Aside0 (Drawn0 w wr)) (fun _ v _ => a0.size - (intOf v).toNat)
  case atStart => exact ⟨0, _, by omega, by omega, rfl, rfl, ⟨rfl⟩, ⟨Drawn0.refl _⟩⟩
  case round =>
    obtain ⟨j, u, hj0, hj, rfl, rfl, HU, HD⟩ := hrel
    have hus : u.size ≤ 3000001 := by
      rw [HU.out]
      have := size_word (a0.data.toList.take j.toNat)
      rw [List.length_take] at this
      omega
    by_cases hlt : j < (a0.size : Int)
    · obtain ⟨hc0, hc1⟩ := bt_range a0 j
      have hx := bt_at a0 j
      have b0 : decide (j < (a0.size : Int)) = true := decide_eq_true hlt
      by_cases hbare : bareI (bt a0 j) = true
      · go_wp2_with fail
        refine (HBase.gharryref25_plain.calls (bt a0 j) true _ (by rw [plain_f, hbare])).mono ?_
        rintro e w3 ⟨rfl, ⟨nd, rfl⟩⟩
        have s0 := eq_true hj0
        have s1 := eq_true (show j ≤ j + 1 by omega)
        have s2 := eq_true (show j + 1 ≤ (a0.size : Int) by omega)
        have s3 := eq_true (show u.size + (a0.extract j.toNat (j + 1).toNat).size ≤ 9223372036854775807 by rw [ByteArray.size_extract]; omega)
        go_wp2_with fail
        go_roundw
        case rel =>
          refine ⟨j + 1, _, by omega, by omega, rfl, rfl, ⟨?_⟩, ⟨HD.out.step nd⟩⟩
          have hk : j.toNat < a0.data.toList.length := by rw [data_length]; omega
          have hbt := byte_of_bt a0 j.toNat (by omega)
          rw [show ((j.toNat : Nat) : Int) = j from by omega] at hbt
          have hw := word_snoc a0.data.toList j.toNat hk
          rw [show (j + 1).toNat = j.toNat + 1 from by omega, hw]
          have he : enc1 a0.data.toList[j.toNat] = [a0.data.toList[j.toNat]] := by
            unfold enc1
            rw [← hbt, if_pos hbare]
          rw [he, HU.out, ← append_toArray]
          congr 1
          have := extract_one a0 j hj0 hlt hk
          rw [show (j + 1).toNat = j.toNat + 1 from by omega] at this
          exact this
        case measure => simp [intOf]; omega
      · have hbare' : bareI (bt a0 j) = false := by simpa using hbare
        go_wp2_with fail
        refine (HBase.gharryref25_plain.calls (bt a0 j) false _ (by rw [plain_f, hbare'])).mono ?_
        rintro e w3 ⟨rfl, ⟨nd, rfl⟩⟩
        have t0 := eq_true (show 0 ≤ bt a0 j / 16 by omega)
        have t1 := eq_true (show bt a0 j / 16 ≤ bt a0 j / 16 + 1 by omega)
        have t2 := eq_true (show bt a0 j / 16 + 1 ≤ (16 : Int) by omega)
        have t3 := eq_true (show 0 ≤ bt a0 j % 16 by omega)
        have t4 := eq_true (show bt a0 j % 16 ≤ bt a0 j % 16 + 1 by omega)
        have t5 := eq_true (show bt a0 j % 16 + 1 ≤ (16 : Int) by omega)
        go_wp2_with fail
        go_quiet (fail)
        go_wp2_with fail
        go_roundw
        case rel =>
          refine ⟨j + 1, _, by omega, by omega, rfl, rfl, ⟨?_⟩, ⟨by repeat (first | exact HD.out | refine Drawn0.step ?_ _)⟩⟩
          have hk : j.toNat < a0.data.toList.length := by rw [data_length]; omega
          have hbt := byte_of_bt a0 j.toNat (by omega)
          rw [show ((j.toNat : Nat) : Int) = j from by omega] at hbt
          have hw := word_snoc a0.data.toList j.toNat hk
          rw [show (j + 1).toNat = j.toNat + 1 from by omega, hw]
          have he : enc1 a0.data.toList[j.toNat] = [37, hexd (a0.data.toList[j.toNat].toNat / 16), hexd (a0.data.toList[j.toNat].toNat % 16)] := by
            unfold enc1
            rw [← hbt, if_neg hbare]
          rw [he, HU.out]
          rw [show (bt a0 j / 16 + 1).toNat = (bt a0 j / 16).toNat + 1 from by omega, show (bt a0 j % 16 + 1).toNat = (bt a0 j % 16).toNat + 1 from by omega, hex_cut _ (by omega), hex_cut _ (by omega), hbt]
          rw [show ((a0.data.toList[j.toNat].toNat : Int) / 16).toNat = a0.data.toList[j.toNat].toNat / 16 from by omega, show ((a0.data.toList[j.toNat].toNat : Int) % 16).toNat = a0.data.toList[j.toNat].toNat % 16 from by omega]
          rw [show (⟨#[37]⟩ : ByteArray) = ⟨[37].toArray⟩ from rfl, append_toArray, append_toArray, append_toArray]
          simp
        case measure => simp [intOf]; omega
    · have hje : j = (a0.size : Int) := by omega
      have hfin : a0.data.toList.take j.toNat = a0.data.toList := by
        rw [List.take_of_length_le]
        rw [data_length]
        omega
      rw [hfin] at HU
      clear hje hfin
      have b0 : decide (j < (a0.size : Int)) = false := decide_eq_false hlt
      go_wp2_with fail
      go_ret
      have hu := HU.out
      subst hu
      exact ⟨rfl, HD.out⟩
end Go.Proofs.YtflbkgpmepfhlaaDoor.Hook
