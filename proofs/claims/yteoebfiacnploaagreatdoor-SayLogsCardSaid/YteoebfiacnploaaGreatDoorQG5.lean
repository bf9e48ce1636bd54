/- Texts of this proof, put together: SayW, SayG, SayD. They prove no statement. -/
import Derived.Test.YteoebfiacnploaaGreatDoorQSayB
import Derived.Test.YteoebfiacnploaaGreatDoorQSBase
import Derived.WalkSpells
import Derived.Deep.QuietTactic
import Derived.BigQuiet
import Derived.Test.YteoebfiacnploaaGreatDoorQG4
namespace Go.Proofs.YteoebfiacnploaaGreatDoor.Hook
open Go.RowKit Go.Proofs.YteoebfiacnploaaGreatDoorW.PrintWords Go.Proofs.YteoebfiacnploaaGreatDoorW.PrintLast Go.Proofs.YteoebfiacnploaaGreatDoorW.PrintMore Go.Proofs.YteoebfiacnploaaGreatDoor.SayPure
set_option linter.unusedVariables false

theorem plain_f (c : Int) : HBase.gharryref25_plain.f c = some (bareI c) := by
  unfold HBase.gharryref25_plain.f bareI
  repeat' split
  all_goals (first | (congr 1; symm; simp; omega) | (congr 1; rw [Bool.eq_iff_iff]; simp; omega))

theorem size_word (l : List UInt8) : (⟨(word l).toArray⟩ : ByteArray).size ≤ 1 + 3 * l.length := by
  have := word_le l
  simpa [ByteArray.size] using this

theorem extract_one (s : ByteArray) (j : Int) (h0 : 0 ≤ j) (h : j < (s.size : Int)) : ∀ q : j.toNat < s.data.toList.length, s.extract j.toNat (j + 1).toNat = ⟨[s.data.toList[j.toNat]].toArray⟩ := by
  intro q
  rw [Lib.extract_eq, show (j + 1).toNat - j.toNat = 1 from by omega, List.drop_eq_getElem_cons q]
  simp

theorem hex_cut (n : Nat) (h : n < 16) : (⟨#[48, 49, 50, 51, 52, 53, 54, 55, 56, 57, 65, 66, 67, 68, 69, 70]⟩ : ByteArray).extract n (n + 1) = ⟨[hexd n].toArray⟩ := by
  have key : ∀ m : Fin 16, (([48, 49, 50, 51, 52, 53, 54, 55, 56, 57, 65, 66, 67, 68, 69, 70] : List UInt8).drop m.val).take (m.val + 1 - m.val) = [hexd m.val] := by decide
  rw [Lib.extract_eq]
  have := key ⟨n, h⟩
  simp only at this
  rw [← this]

def gharryref25_Word.f (a0 : ByteArray) : Option ByteArray := if a0.size ≤ 1000000 then some ⟨(word a0.data.toList).toArray⟩ else none

theorem append_toArray (a b : List UInt8) : (⟨a.toArray⟩ : ByteArray) ++ ⟨b.toArray⟩ = ⟨(a ++ b).toArray⟩ := by
  apply ByteArray.ext
  simp

set_option maxHeartbeats 4000000 in
set_option maxRecDepth 100000 in
theorem gharryref25_Word.calls (a0 : ByteArray) (r : ByteArray) (w : World) (h : gharryref25_Word.f a0 = some r) :
    Calls Tryz.prog 32 #[.string a0] w fun e w' => e = .returned (.string r) ∧ Drawn0 w w' := by
  unfold gharryref25_Word.f at h
  split at h
  rotate_left
  · cases h
  rename_i hsz
  obtain rfl := Option.some.inj h
  clear h
  go_enter Tryz.func32, Tryz.ntmps32
  go_wp2_with fail
  go_loopw [4, 5] (fun o v wr => ∃ j : Int, ∃ u : ByteArray, 0 ≤ j ∧ j ≤ (a0.size : Int) ∧ v = .int .i64 j ∧ o = .string u ∧ Aside0 (u = ⟨(word (a0.data.toList.take j.toNat)).toArray⟩) ∧ Aside0 (Drawn0 w wr)) (fun _ v _ => a0.size - (intOf v).toNat)
  case atStart => exact ⟨0, _, by omega, by omega, rfl, rfl, ⟨rfl⟩, ⟨Drawn0.refl _⟩⟩
  case round =>
    obtain ⟨j, u, hj0, hj, rfl, rfl, HU, HD⟩ := hrel
    have hus : u.size ≤ 3000001 := by
      rw [HU.out]
      have := size_word (a0.data.toList.take j.toNat)
      rw [List.length_take] at this
      omega
    by_cases hlt : j < (a0.size : Int)
    · obtain ⟨hc0, hc1⟩ := bt_range a0 j
      have hx := bt_at a0 j
      have b0 : decide (j < (a0.size : Int)) = true := decide_eq_true hlt
      by_cases hbare : bareI (bt a0 j) = true
      · go_wp2_with fail
        refine (HBase.gharryref25_plain.calls (bt a0 j) true _ (by rw [plain_f, hbare])).mono ?_
        rintro e w3 ⟨rfl, ⟨nd, rfl⟩⟩
        have s0 := eq_true hj0
        have s1 := eq_true (show j ≤ j + 1 by omega)
        have s2 := eq_true (show j + 1 ≤ (a0.size : Int) by omega)
        have s3 := eq_true (show u.size + (a0.extract j.toNat (j + 1).toNat).size ≤ 9223372036854775807 by rw [ByteArray.size_extract]; omega)
        go_wp2_with fail
        go_roundw
        case rel =>
          refine ⟨j + 1, _, by omega, by omega, rfl, rfl, ⟨?_⟩, ⟨HD.out.step nd⟩⟩
          have hk : j.toNat < a0.data.toList.length := by rw [data_length]; omega
          have hbt := byte_of_bt a0 j.toNat (by omega)
          rw [show ((j.toNat : Nat) : Int) = j from by omega] at hbt
          have hw := word_snoc a0.data.toList j.toNat hk
          rw [show (j + 1).toNat = j.toNat + 1 from by omega, hw]
          have he : enc1 a0.data.toList[j.toNat] = [a0.data.toList[j.toNat]] := by
            unfold enc1
            rw [← hbt, if_pos hbare]
          rw [he, HU.out, ← append_toArray]
          congr 1
          have := extract_one a0 j hj0 hlt hk
          rw [show (j + 1).toNat = j.toNat + 1 from by omega] at this
          exact this
        case measure => simp [intOf]; omega
      · have hbare' : bareI (bt a0 j) = false := by simpa using hbare
        go_wp2_with fail
        refine (HBase.gharryref25_plain.calls (bt a0 j) false _ (by rw [plain_f, hbare'])).mono ?_
        rintro e w3 ⟨rfl, ⟨nd, rfl⟩⟩
        have t0 := eq_true (show 0 ≤ bt a0 j / 16 by omega)
        have t1 := eq_true (show bt a0 j / 16 ≤ bt a0 j / 16 + 1 by omega)
        have t2 := eq_true (show bt a0 j / 16 + 1 ≤ (16 : Int) by omega)
        have t3 := eq_true (show 0 ≤ bt a0 j % 16 by omega)
        have t4 := eq_true (show bt a0 j % 16 ≤ bt a0 j % 16 + 1 by omega)
        have t5 := eq_true (show bt a0 j % 16 + 1 ≤ (16 : Int) by omega)
        go_wp2_with fail
        go_quiet (fail)
        go_wp2_with fail
        go_roundw
        case rel =>
          refine ⟨j + 1, _, by omega, by omega, rfl, rfl, ⟨?_⟩, ⟨by repeat (first | exact HD.out | refine Drawn0.step ?_ _)⟩⟩
          have hk : j.toNat < a0.data.toList.length := by rw [data_length]; omega
          have hbt := byte_of_bt a0 j.toNat (by omega)
          rw [show ((j.toNat : Nat) : Int) = j from by omega] at hbt
          have hw := word_snoc a0.data.toList j.toNat hk
          rw [show (j + 1).toNat = j.toNat + 1 from by omega, hw]
          have he : enc1 a0.data.toList[j.toNat] = [37, hexd (a0.data.toList[j.toNat].toNat / 16), hexd (a0.data.toList[j.toNat].toNat % 16)] := by
            unfold enc1
            rw [← hbt, if_neg hbare]
          rw [he, HU.out]
          rw [show (bt a0 j / 16 + 1).toNat = (bt a0 j / 16).toNat + 1 from by omega, show (bt a0 j % 16 + 1).toNat = (bt a0 j % 16).toNat + 1 from by omega, hex_cut _ (by omega), hex_cut _ (by omega), hbt]
          rw [show ((a0.data.toList[j.toNat].toNat : Int) / 16).toNat = a0.data.toList[j.toNat].toNat / 16 from by omega, show ((a0.data.toList[j.toNat].toNat : Int) % 16).toNat = a0.data.toList[j.toNat].toNat % 16 from by omega]
          rw [show (⟨#[37]⟩ : ByteArray) = ⟨[37].toArray⟩ from rfl, append_toArray, append_toArray, append_toArray]
          simp
        case measure => simp [intOf]; omega
    · have hje : j = (a0.size : Int) := by omega
      have hfin : a0.data.toList.take j.toNat = a0.data.toList := by
        rw [List.take_of_length_le]
        rw [data_length]
        omega
      rw [hfin] at HU
      clear hje hfin
      have b0 : decide (j < (a0.size : Int)) = false := decide_eq_false hlt
      go_wp2_with fail
      go_ret
      have hu := HU.out
      subst hu
      exact ⟨rfl, HD.out⟩
end Go.Proofs.YteoebfiacnploaaGreatDoor.Hook
namespace Go.Proofs.YteoebfiacnploaaGreatDoor.Hook
open Go.RowKit Go.Proofs.YteoebfiacnploaaGreatDoorW.PrintWords Go.Proofs.YteoebfiacnploaaGreatDoorW.PrintLast Go.Proofs.YteoebfiacnploaaGreatDoorW.PrintMore Go.Proofs.YteoebfiacnploaaGreatDoor.SayPure
set_option linter.unusedVariables false

theorem strOfNums_one (z : Nat) (h : z < 256) : strOfNums [(z : Int)] = ⟨[z.toUInt8].toArray⟩ := by
  unfold strOfNums
  simp
/-- A number's digits. -/
def dec (n : Nat) : List UInt8 := if n < 10 then [(48 + n).toUInt8] else dec (n / 10) ++ [(48 + n % 10).toUInt8]
termination_by n
decreasing_by omega

theorem u64w (x : Int) : IntKind.u64.wrap x = x % 18446744073709551616 := by simp [IntKind.wrap, IntKind.bits, IntKind.signed]
theorem digit_one (n : Nat) (h : n < 18446744073709551616) : strOfNums [(IntKind.u64.wrap (48 + (Int.tmod (n : Int) 10))) % 256] = ⟨[(48 + n % 10).toUInt8].toArray⟩ := by
  have e : Int.tmod (n : Int) 10 = ((n % 10 : Nat) : Int) := by rw [Int.tmod_eq_emod_of_nonneg (by omega)]; omega
  rw [e, u64w, show ((48 + ((n % 10 : Nat) : Int)) % 18446744073709551616) % 256 = ((48 + n % 10 : Nat) : Int) from by omega]
  exact strOfNums_one _ (by omega)
theorem tdiv_ten (n : Nat) (h : n < 18446744073709551616) : IntKind.u64.wrap (Int.tdiv (n : Int) 10) = ((n / 10 : Nat) : Int) := by
  rw [Int.tdiv_eq_ediv_of_nonneg (by omega), u64w]
  omega
theorem size_one (c : UInt8) : (⟨[c].toArray⟩ : ByteArray).size = 1 := rfl
theorem size_join (a b : ByteArray) : (a ++ b).size = a.size + b.size := ByteArray.size_append
theorem append_assoc' (a b c : ByteArray) : (a ++ b) ++ c = a ++ (b ++ c) := by
  apply ByteArray.ext
  simp

theorem digits_l0 : ∀ (k n : Nat) (acc : ByteArray), n < 10 ^ (k + 1) → n < 18446744073709551616 → acc.size + k ≤ 1000 → HBase.say_digits.l0 (k + 1) (n : Int) acc = some (⟨(dec n).toArray⟩ ++ acc) := by
  intro k
  induction k with
  | zero =>
    intro n acc h hn ha
    have h10 : n < 10 := by simpa using h
    rw [HBase.say_digits.l0, if_neg (by omega)]
    have e := digit_one n hn
    rw [show Int.tmod (n : Int) 10 = (n : Int) from by rw [Int.tmod_eq_emod_of_nonneg (by omega)]; omega, show n % 10 = n from by omega] at e
    simp only [Option.bind_some]
    rw [e, if_pos (by rw [size_one]; omega), dec, if_pos h10]
  | succ k ih =>
    intro n acc h hn ha
    rw [HBase.say_digits.l0]
    by_cases h10 : n < 10
    · rw [if_neg (by omega)]
      have e := digit_one n hn
      rw [show Int.tmod (n : Int) 10 = (n : Int) from by rw [Int.tmod_eq_emod_of_nonneg (by omega)]; omega, show n % 10 = n from by omega] at e
      simp only [Option.bind_some]
      rw [e, if_pos (by rw [size_one]; omega), dec, if_pos h10]
    · rw [if_pos (by omega)]
      simp only [Option.bind_some]
      rw [digit_one n hn, if_pos (by rw [size_one]; omega), tdiv_ten n hn, ih (n / 10) _ (by rw [Nat.pow_succ] at h; omega) (by omega) (by rw [size_join, size_one]; omega)]
      rw [← append_assoc']
      conv => rhs; rw [dec, if_neg h10, ← append_toArray]

def say_digits.f (a0 : Int) : Option ByteArray := if 0 ≤ a0 ∧ a0 < 18446744073709551616 then some ⟨(dec a0.toNat).toArray⟩ else none
theorem say_digits.calls (a0 : Int) (r : ByteArray) (w : World) (h : say_digits.f a0 = some r) :
    Calls Tryz.prog 62 #[.int .u64 a0] w fun e w' => e = .returned (.string r) ∧ Below w.heap.size w w' := by
  unfold say_digits.f at h
  split at h
  rotate_left
  · cases h
  rename_i hr
  obtain rfl := Option.some.inj h
  obtain ⟨n, rfl⟩ := Int.eq_ofNat_of_zero_le hr.1
  refine HBase.say_digits.calls 21 _ _ w ?_
  unfold HBase.say_digits.f
  rw [digits_l0 20 n _ (by omega) (by omega) (by decide)]
  congr 1
  apply ByteArray.ext
  simp

theorem number_l0 : ∀ (k n : Nat) (acc : ByteArray), n < 10 ^ (k + 1) → n < 18446744073709551616 → acc.size + k ≤ 1000 → HBase.gharryref25_Number.l0 (k + 1) (n : Int) acc = some (⟨(dec n).toArray⟩ ++ acc) := by
  intro k
  induction k with
  | zero =>
    intro n acc h hn ha
    have h10 : n < 10 := by simpa using h
    rw [HBase.gharryref25_Number.l0]
    simp only [Option.bind_some]
    rw [digit_one n hn, if_pos (by rw [size_one]; omega), tdiv_ten n hn, if_pos (by omega), dec, if_pos h10, show n % 10 = n from by omega]
  | succ k ih =>
    intro n acc h hn ha
    rw [HBase.gharryref25_Number.l0]
    simp only [Option.bind_some]
    rw [digit_one n hn, if_pos (by rw [size_one]; omega), tdiv_ten n hn]
    by_cases h10 : n < 10
    · rw [if_pos (by omega), dec, if_pos h10, show n % 10 = n from by omega]
    · rw [if_neg (by omega), ih (n / 10) _ (by rw [Nat.pow_succ] at h; omega) (by omega) (by rw [size_join, size_one]; omega)]
      rw [← append_assoc']
      conv => rhs; rw [dec, if_neg h10, ← append_toArray]

def gharryref25_Number.f (a0 : Int) : Option ByteArray := if 0 ≤ a0 ∧ a0 < 18446744073709551616 then some ⟨(dec a0.toNat).toArray⟩ else none
theorem gharryref25_Number.calls (a0 : Int) (r : ByteArray) (w : World) (h : gharryref25_Number.f a0 = some r) :
    Calls Tryz.prog 31 #[.int .u64 a0] w fun e w' => e = .returned (.string r) ∧ Below w.heap.size w w' := by
  unfold gharryref25_Number.f at h
  split at h
  rotate_left
  · cases h
  rename_i hr
  obtain rfl := Option.some.inj h
  obtain ⟨n, rfl⟩ := Int.eq_ofNat_of_zero_le hr.1
  refine HBase.gharryref25_Number.calls 21 _ _ w ?_
  unfold HBase.gharryref25_Number.f
  rw [number_l0 20 n _ (by omega) (by omega) (by decide)]
  congr 1
  apply ByteArray.ext
  simp

end Go.Proofs.YteoebfiacnploaaGreatDoor.Hook
namespace Go.Proofs.YteoebfiacnploaaGreatDoor.HRec
open Go.RowKit Go.Proofs.YteoebfiacnploaaGreatDoorW.PrintWords Go.Proofs.YteoebfiacnploaaGreatDoorW.PrintLast Go.Proofs.YteoebfiacnploaaGreatDoorW.PrintMore Go.Proofs.YteoebfiacnploaaGreatDoor.SayPure
open Go.Proofs.YteoebfiacnploaaGreatDoor.Hook (dec say_Word.f say_Word.calls say_digits.f say_digits.calls gharryref25_Number.f gharryref25_Number.calls u64w)
set_option linter.unusedVariables false
set_option linter.unusedSimpArgs false
/-- A number as a word; below 0 it is 0. -/
def lowB (a : Int) : ByteArray := ⟨(dec (IntKind.u64.wrap (mx a 0)).toNat).toArray⟩
/-- A text as a word. -/
def mkW (s : ByteArray) : ByteArray := ⟨(word s.data.toList).toArray⟩
/-- A kind of record as a word. -/
def nameB (a0 : Int) : ByteArray := if a0 = 1 then ⟨#[102, 117, 108, 108]⟩ else if a0 = 2 then ⟨#[115, 104, 97, 112, 101]⟩ else if a0 = 3 then ⟨#[105, 110, 115, 101, 114, 116]⟩ else if a0 = 4 then ⟨#[100, 101, 108, 101, 116, 101]⟩ else if a0 = 5 then ⟨#[117, 112, 100, 97, 116, 101]⟩ else if a0 = 6 then ⟨#[117, 110, 100, 111]⟩ else if a0 = 7 then ⟨#[99, 111, 109, 109, 105, 116]⟩ else if a0 = 8 then ⟨#[101, 110, 100]⟩ else if a0 = 9 then ⟨#[99, 104, 101, 99, 107]⟩ else if a0 = 10 then ⟨#[101, 112, 111, 99, 104]⟩ else ⟨#[110, 111, 110, 101]⟩
theorem wrap_range (a : Int) : 0 ≤ IntKind.u64.wrap a ∧ IntKind.u64.wrap a < 18446744073709551616 := by rw [u64w]; omega
theorem dec_len : ∀ (k n : Nat), n < 10 ^ (k + 1) → (dec n).length ≤ k + 1
  | 0, n, h => by rw [dec, if_pos (by simpa using h)]; simp
  | k + 1, n, h => by
    rw [dec]
    split
    · simp
    · have := dec_len k (n / 10) (by rw [Nat.pow_succ] at h; omega)
      simp only [List.length_append, List.length_cons, List.length_nil]
      omega
theorem lowB_size (a : Int) : (lowB a).size ≤ 20 := by
  have h := (wrap_range (mx a 0)).2; have h0 := (wrap_range (mx a 0)).1
  have := dec_len 19 (IntKind.u64.wrap (mx a 0)).toNat (by omega)
  show (dec _).toArray.size ≤ 20
  rw [List.size_toArray]
  omega
theorem mkW_size (s : ByteArray) : (mkW s).size ≤ 1 + 3 * s.size := by
  have := word_le s.data.toList
  show (word _).toArray.size ≤ _
  rw [List.size_toArray, ← data_length s]
  exact this
theorem name_cases (a : Int) : a = 1 ∨ a = 2 ∨ a = 3 ∨ a = 4 ∨ a = 5 ∨ a = 6 ∨ a = 7 ∨ a = 8 ∨ a = 9 ∨ a = 10 ∨ (a < 1 ∨ 10 < a) := by omega
theorem name_other {a : Int} (h : a < 1 ∨ 10 < a) : nameB a = ⟨#[110, 111, 110, 101]⟩ := by
  unfold nameB
  repeat rw [if_neg (by omega)]
theorem nameB_size (a : Int) : (nameB a).size ≤ 10 := by
  rcases name_cases a with rfl | rfl | rfl | rfl | rfl | rfl | rfl | rfl | rfl | rfl | h
  all_goals first
    | decide
    | (rw [name_other h]; decide)
set_option maxHeartbeats 4000000 in
set_option maxRecDepth 100000 in
theorem law_name (a : Int) (w : World) : Calls Tryz.prog 17 #[.int .i64 a] w fun e w' => e = .returned (.string (nameB a)) ∧ Below w.heap.size w w' := by
  rcases name_cases a with rfl | rfl | rfl | rfl | rfl | rfl | rfl | rfl | rfl | rfl | h
  rotate_left 10
  · rw [name_other h]
    rcases h with h | h
    · have t1 : decide (a < 1) = true := decide_eq_true h
      clear h
      go_enter Tryz.func17, Tryz.ntmps17
      go_wp2_with fail
      go_ret
      exact ⟨rfl, below_alloc (Below.refl _ _) _⟩
    · have t1 : decide (a < 1) = false := decide_eq_false (by omega)
      have t2 : decide (10 < a) = true := decide_eq_true h
      clear h
      go_enter Tryz.func17, Tryz.ntmps17
      go_wp2_with fail
      go_ret
      exact ⟨rfl, below_alloc (Below.refl _ _) _⟩
  all_goals
    go_enter Tryz.func17, Tryz.ntmps17
    go_wp2_with fail
    go_ret
    exact ⟨rfl, below_alloc (Below.refl _ _) _⟩
set_option maxHeartbeats 4000000 in
set_option maxRecDepth 100000 in
theorem say_name (a : Int) (w : World) : Calls Tryz.prog 36 #[.int .i64 a] w fun e w' => e = .returned (.string (nameB a)) ∧ Below w.heap.size w w' := by
  rcases name_cases a with rfl | rfl | rfl | rfl | rfl | rfl | rfl | rfl | rfl | rfl | h
  rotate_left 10
  · rw [name_other h]
    have t1 : (a == 1) = false := beq_eq_false_iff_ne.mpr (by omega)
    have t2 : (a == 2) = false := beq_eq_false_iff_ne.mpr (by omega)
    have t3 : (a == 3) = false := beq_eq_false_iff_ne.mpr (by omega)
    have t4 : (a == 4) = false := beq_eq_false_iff_ne.mpr (by omega)
    have t5 : (a == 5) = false := beq_eq_false_iff_ne.mpr (by omega)
    have t6 : (a == 6) = false := beq_eq_false_iff_ne.mpr (by omega)
    have t7 : (a == 7) = false := beq_eq_false_iff_ne.mpr (by omega)
    have t8 : (a == 8) = false := beq_eq_false_iff_ne.mpr (by omega)
    have t9 : (a == 9) = false := beq_eq_false_iff_ne.mpr (by omega)
    have t10 : (a == 10) = false := beq_eq_false_iff_ne.mpr (by omega)
    clear h
    go_enter Tryz.func36, Tryz.ntmps36
    go_wp2_with fail
    go_ret
    exact ⟨rfl, Below.refl _ _⟩
  all_goals
    go_enter Tryz.func36, Tryz.ntmps36
    go_wp2_with fail
    go_ret
    exact ⟨rfl, Below.refl _ _⟩
set_option maxHeartbeats 100000 in
theorem say_word (s : ByteArray) (w : World) (hs : s.size ≤ 1000000) : Calls Tryz.prog 63 #[.string s] w fun e w' => e = .returned (.string (mkW s)) ∧ Below w.heap.size w w' := say_Word.calls s _ w (if_pos hs)
set_option maxHeartbeats 100000 in
theorem digits_ (a : Int) (w : World) : Calls Tryz.prog 62 #[.int .u64 (IntKind.u64.wrap (mx a 0))] w fun e w' => e = .returned (.string (lowB a)) ∧ Below w.heap.size w w' := say_digits.calls _ _ w (if_pos (wrap_range _))
set_option maxHeartbeats 100000 in
theorem number_ (a : Int) (w : World) : Calls Tryz.prog 31 #[.int .u64 (IntKind.u64.wrap (mx a 0))] w fun e w' => e = .returned (.string (lowB a)) ∧ Below w.heap.size w w' := gharryref25_Number.calls _ _ w (if_pos (wrap_range _))
set_option maxHeartbeats 800000 in
set_option maxRecDepth 100000 in
theorem say_num (a : Int) (w : World) : Calls Tryz.prog 35 #[.int .i64 a] w fun e w' => e = .returned (.string (lowB a)) ∧ Below w.heap.size w w' := by
  have HD := Aside0.mk (digits_ a w)
  obtain ⟨z, hz⟩ : ∃ z, z = mx a 0 := ⟨_, rfl⟩
  have hz2 : max a 0 = z := by rw [hz]; unfold mx; split <;> omega
  rw [← hz] at HD
  clear hz
  go_enter Tryz.func35, Tryz.ntmps35
  go_wp2_with fail
  refine HD.out.mono ?_
  rintro e w1 ⟨rfl, hb⟩
  go_wp2_with fail
  go_ret
  exact ⟨rfl, hb⟩
set_option maxHeartbeats 800000 in
set_option maxRecDepth 100000 in
theorem law_low (a : Int) (w : World) : Calls Tryz.prog 16 #[.int .i64 a] w fun e w' => e = .returned (.string (lowB a)) ∧ Below w.heap.size w w' := by
  have HD := number_ a w
  by_cases ha : a < 0
  · rw [show mx a 0 = 0 from if_pos ha] at HD
    have b0 : decide (a < 0) = true := decide_eq_true ha
    clear ha; have HD := Aside0.mk HD
    go_enter Tryz.func16, Tryz.ntmps16
    go_wp2_with fail
    refine HD.out.mono ?_
    rintro e w1 ⟨rfl, hb⟩
    go_wp2_with fail
    go_ret
    exact ⟨rfl, hb⟩
  · rw [show mx a 0 = a from if_neg ha] at HD
    have b0 : decide (a < 0) = false := decide_eq_false ha
    clear ha; have HD := Aside0.mk HD
    go_enter Tryz.func16, Tryz.ntmps16
    go_wp2_with fail
    refine HD.out.mono ?_
    rintro e w1 ⟨rfl, hb⟩
    go_wp2_with fail
    go_ret
    exact ⟨rfl, hb⟩
end Go.Proofs.YteoebfiacnploaaGreatDoor.HRec
