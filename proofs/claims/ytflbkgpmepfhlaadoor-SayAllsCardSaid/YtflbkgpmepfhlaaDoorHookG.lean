/- Contracts of say.digits, of the reference's Number and count, and of strings.Split at one byte: over their printed functions, in plain words. It proves no statement. -/
import Derived.Test.YtflbkgpmepfhlaaDoorHookF
import Derived.Test.YtflbkgpmepfhlaaDoorHBasex2
import Derived.Test.YtflbkgpmepfhlaaDoorHBasex5
namespace Go.Proofs.YtflbkgpmepfhlaaDoor.Hook
open Go.RowKit Go.Proofs.YtflbkgpmepfhlaaDoorW.PrintWords Go.Proofs.YtflbkgpmepfhlaaDoorW.PrintLast Go.Proofs.YtflbkgpmepfhlaaDoorW.PrintMore Go.Proofs.YtflbkgpmepfhlaaDoor.SayPure
set_option linter.unusedVariables false

/-- A number's digits. -/
def dec (n : Nat) : List UInt8 := if n < 10 then [(48 + n).toUInt8] else dec (n / 10) ++ [(48 + n % 10).toUInt8]
termination_by n
decreasing_by omega

theorem u64w (x : Int) : IntKind.u64.wrap x = x % 18446744073709551616 := by simp [IntKind.wrap, IntKind.bits, IntKind.signed]
theorem digit_one (n : Nat) (h : n < 18446744073709551616) : strOfNums [(IntKind.u64.wrap (48 + (Int.tmod (n : Int) 10))) % 256] = ⟨[(48 + n % 10).toUInt8].toArray⟩ := by
  have e : Int.tmod (n : Int) 10 = ((n % 10 : Nat) : Int) := by rw [Int.tmod_eq_emod_of_nonneg (by omega)]; omega
  rw [e, u64w, show ((48 + ((n % 10 : Nat) : Int)) % 18446744073709551616) % 256 = ((48 + n % 10 : Nat) : Int) from by omega]
  exact strOfNums_one _ (by omega)
theorem tdiv_ten (n : Nat) (h : n < 18446744073709551616) : IntKind.u64.wrap (Int.tdiv (n : Int) 10) = ((n / 10 : Nat) : Int) := by
  rw [Int.tdiv_eq_ediv_of_nonneg (by omega), u64w]
  omega
theorem size_one (c : UInt8) : (⟨[c].toArray⟩ : ByteArray).size = 1 := rfl
theorem size_join (a b : ByteArray) : (a ++ b).size = a.size + b.size := ByteArray.size_append
theorem append_assoc' (a b c : ByteArray) : (a ++ b) ++ c = a ++ (b ++ c) := by
  apply ByteArray.ext
  simp

theorem digits_l0 : ∀ (k n : Nat) (acc : ByteArray), n < 10 ^ (k + 1) → n < 18446744073709551616 → acc.size + k ≤ 1000 → HBase.say_digits.l0 (k + 1) (n : Int) acc = some (⟨(dec n).toArray⟩ ++ acc) := by
  intro k
  induction k with
  | zero =>
    intro n acc h hn ha
    have h10 : n < 10 := by simpa using h
    rw [HBase.say_digits.l0, if_neg (by omega)]
    have e := digit_one n hn
    rw [show Int.tmod (n : Int) 10 = (n : Int) from by rw [Int.tmod_eq_emod_of_nonneg (by omega)]; omega, show n % 10 = n from by omega] at e
    simp only [Option.bind_some]
    rw [e, if_pos (by rw [size_one]; omega), dec, if_pos h10]
  | succ k ih =>
    intro n acc h hn ha
    rw [HBase.say_digits.l0]
    by_cases h10 : n < 10
    · rw [if_neg (by omega)]
      have e := digit_one n hn
      rw [show Int.tmod (n : Int) 10 = (n : Int) from by rw [Int.tmod_eq_emod_of_nonneg (by omega)]; omega, show n % 10 = n from by omega] at e
      simp only [Option.bind_some]
      rw [e, if_pos (by rw [size_one]; omega), dec, if_pos h10]
    · rw [if_pos (by omega)]
      simp only [Option.bind_some]
      rw [digit_one n hn, if_pos (by rw [size_one]; omega), tdiv_ten n hn, ih (n / 10) _ (by rw [Nat.pow_succ] at h; omega) (by omega) (by rw [size_join, size_one]; omega)]
      rw [← append_assoc']
      conv => rhs; rw [dec, if_neg h10, ← append_toArray]

def say_digits.f (a0 : Int) : Option ByteArray := if 0 ≤ a0 ∧ a0 < 18446744073709551616 then some ⟨(dec a0.toNat).toArray⟩ else none
theorem say_digits.calls (a0 : Int) (r : ByteArray) (w : World) (h : say_digits.f a0 = some r) :
    Calls Tryd.prog 47 #[.int .u64 a0] w fun e w' => e = .returned (.string r) ∧ Below w.heap.size w w' := by
  unfold say_digits.f at h
  split at h
  rotate_left
  · cases h
  rename_i hr
  obtain rfl := Option.some.inj h
  obtain ⟨n, rfl⟩ := Int.eq_ofNat_of_zero_le hr.1
  refine HBase.say_digits.calls 21 _ _ w ?_
  unfold HBase.say_digits.f
  rw [digits_l0 20 n _ (by omega) (by omega) (by decide)]
  congr 1
  apply ByteArray.ext
  simp

theorem number_l0 : ∀ (k n : Nat) (acc : ByteArray), n < 10 ^ (k + 1) → n < 18446744073709551616 → acc.size + k ≤ 1000 → HBase.gharryref25_Number.l0 (k + 1) (n : Int) acc = some (⟨(dec n).toArray⟩ ++ acc) := by
  intro k
  induction k with
  | zero =>
    intro n acc h hn ha
    have h10 : n < 10 := by simpa using h
    rw [HBase.gharryref25_Number.l0]
    simp only [Option.bind_some]
    rw [digit_one n hn, if_pos (by rw [size_one]; omega), tdiv_ten n hn, if_pos (by omega), dec, if_pos h10, show n % 10 = n from by omega]
  | succ k ih =>
    intro n acc h hn ha
    rw [HBase.gharryref25_Number.l0]
    simp only [Option.bind_some]
    rw [digit_one n hn, if_pos (by rw [size_one]; omega), tdiv_ten n hn]
    by_cases h10 : n < 10
    · rw [if_pos (by omega), dec, if_pos h10, show n % 10 = n from by omega]
    · rw [if_neg (by omega), ih (n / 10) _ (by rw [Nat.pow_succ] at h; omega) (by omega) (by rw [size_join, size_one]; omega)]
      rw [← append_assoc']
      conv => rhs; rw [dec, if_neg h10, ← append_toArray]

def gharryref25_Number.f (a0 : Int) : Option ByteArray := if 0 ≤ a0 ∧ a0 < 18446744073709551616 then some ⟨(dec a0.toNat).toArray⟩ else none
theorem gharryref25_Number.calls (a0 : Int) (r : ByteArray) (w : World) (h : gharryref25_Number.f a0 = some r) :
    Calls Tryd.prog 45 #[.int .u64 a0] w fun e w' => e = .returned (.string r) ∧ Below w.heap.size w w' := by
  unfold gharryref25_Number.f at h
  split at h
  rotate_left
  · cases h
  rename_i hr
  obtain rfl := Option.some.inj h
  obtain ⟨n, rfl⟩ := Int.eq_ofNat_of_zero_le hr.1
  refine HBase.gharryref25_Number.calls 21 _ _ w ?_
  unfold HBase.gharryref25_Number.f
  rw [number_l0 20 n _ (by omega) (by omega) (by decide)]
  congr 1
  apply ByteArray.ext
  simp

theorem count_l0 (a0 : ByteArray) (a1 : Int) (hsz : a0.size ≤ 9223372036854775806) : ∀ (d k : Nat) (n : Int) (j : Nat), j + d = a0.size → 0 ≤ n → n < 18446744073709551616 → 2 * d < k →
    HBase.gharryref25_count.l0 k a0 a1 n (j : Int) = some (match val (a0.data.toList.drop j) n with | some m => (m, decide (m ≤ a1)) | none => (0, false)) := by
  intro d
  induction d with
  | zero =>
    intro k n j hj h0 h1 hk
    obtain ⟨k, rfl⟩ : ∃ m, k = m + 1 := ⟨k - 1, by omega⟩
    rw [HBase.gharryref25_count.l0, if_neg (by omega), List.drop_eq_nil_iff.2 (by rw [data_length]; omega)]
    rfl
  | succ d ih =>
    intro k n j hj h0 h1 hk
    obtain ⟨k, rfl⟩ : ∃ m, k = m + 2 := ⟨k - 2, by omega⟩
    have hjl : j < a0.data.toList.length := by rw [data_length]; omega
    obtain ⟨hd0, hd1⟩ := bt_range a0 (j : Int)
    have hbt := byte_of_bt a0 j (by omega)
    rw [drop_cons a0.data.toList j hjl, val, ← hbt]
    rw [HBase.gharryref25_count.l0, if_pos (by omega), if_pos (by omega)]
    have hwj : wrap64 ((j : Int) + 1) = ((j + 1 : Nat) : Int) := by unfold wrap64; omega
    by_cases hlow : bt a0 (j : Int) < 48
    · rw [if_pos hlow, HBase.gharryref25_count.j2, if_pos rfl, if_neg (by omega)]
    · rw [if_neg hlow, HBase.gharryref25_count.j2]
      by_cases hhi : bt a0 (j : Int) > 57
      · rw [if_pos (decide_eq_true hhi), if_neg (by omega)]
      · rw [if_neg (by simpa using hhi), if_pos (by omega), if_pos (by omega)]
        have hd : IntKind.u64.wrap ((IntKind.u64.wrap (bt a0 (j : Int))) - 48) = bt a0 (j : Int) - 48 := by rw [u64w, u64w]; omega
        rw [hd]
        have hgo : 10 * n + (bt a0 (j : Int) - 48) < 18446744073709551616 → HBase.gharryref25_count.l0 k a0 a1 (IntKind.u64.wrap ((IntKind.u64.wrap (10 * n)) + (bt a0 (j : Int) - 48))) (wrap64 ((j : Int) + 1)) = some (match (if 48 ≤ bt a0 (j : Int) ∧ bt a0 (j : Int) ≤ 57 ∧ 10 * n + (bt a0 (j : Int) - 48) < 18446744073709551616 then val (a0.data.toList.drop (j + 1)) (10 * n + (bt a0 (j : Int) - 48)) else none) with | some m => (m, decide (m ≤ a1)) | none => (0, false)) := by
          intro hlt
          rw [if_pos (by omega), hwj, show IntKind.u64.wrap ((IntKind.u64.wrap (10 * n)) + (bt a0 (j : Int) - 48)) = 10 * n + (bt a0 (j : Int) - 48) from by rw [u64w, u64w]; omega]
          exact ih k _ (j + 1) (by omega) (by omega) hlt (by omega)
        by_cases hn : n > 1844674407370955161
        · rw [if_pos hn, if_neg (by omega)]
        · rw [if_neg hn]
          by_cases he : n = 1844674407370955161
          · rw [if_pos he]
            by_cases h5 : bt a0 (j : Int) - 48 > 5
            · rw [if_pos h5, if_neg (by omega)]
            · rw [if_neg h5]
              exact hgo (by omega)
          · rw [if_neg he]
            exact hgo (by omega)

def gharryref25_count.f (a0 : ByteArray) (a1 : Int) : Option (Int × Bool) := if a0.size ≤ 1000000 then some (countF a0.data.toList a1) else none
theorem ref_count (a0 : ByteArray) (a1 : Int) (hsz : a0.size ≤ 1000000) : HBase.gharryref25_count.f 2000010 a0 a1 = some (countF a0.data.toList a1) := by
  unfold HBase.gharryref25_count.f countF
  by_cases hz : a0.size = 0
  · obtain rfl := size_zero hz
    rfl
  · have hpos : 0 < a0.size := by omega
    have hne : a0.data.toList.isEmpty = false := by
      cases hq : a0.data.toList with
      | nil => rw [← data_length, hq] at hpos; simp at hpos
      | cons _ _ => rfl
    rw [if_neg (by omega)]
    by_cases h20 : (a0.size : Int) > 20
    · have hb : badCount a0.data.toList = true := by
        unfold badCount
        rw [data_length, decide_eq_true (show 20 < a0.size by omega)]
        simp
      rw [if_pos h20, if_pos hb, HBase.gharryref25_count.j0, if_pos rfl]
    · rw [if_neg h20]
      have hgo : HBase.gharryref25_count.l0 2000009 a0 a1 0 0 = some (match val a0.data.toList 0 with | some m => (m, decide (m ≤ a1)) | none => (0, false)) := by
        have := count_l0 a0 a1 (by omega) a0.size 2000009 0 0 (by omega) (by omega) (by omega) (by omega)
        exact this
      by_cases h1 : (a0.size : Int) > 1
      · rw [if_pos h1, if_pos (by omega), HBase.gharryref25_count.j0]
        have hl := lead_of a0 hpos
        by_cases h48 : a0.data.toList.headD 0 = 48
        · have hb : badCount a0.data.toList = true := by
            unfold badCount
            rw [data_length, decide_eq_true (show 1 < a0.size by omega), h48]
            simp
          rw [if_pos hb, if_pos (by rw [hl, h48]; rfl)]
        · have hb : ¬ badCount a0.data.toList = true := by
            unfold badCount
            rw [data_length, hne, decide_eq_false (show ¬ 20 < a0.size by omega)]
            simpa using fun _ => h48
          have hl' : ¬ (bt a0 0 == 48) = true := by
            rw [beq_iff_eq, hl]
            intro e
            apply h48
            apply UInt8.toNat_inj.1
            have : (48 : UInt8).toNat = 48 := rfl
            omega
          rw [if_neg hb, if_neg hl']
          exact hgo
      · have hb : ¬ badCount a0.data.toList = true := by
          unfold badCount
          rw [data_length, hne, decide_eq_false (show ¬ 20 < a0.size by omega), decide_eq_false (show ¬ 1 < a0.size by omega)]
          simp
        rw [if_neg h1, if_neg hb, HBase.gharryref25_count.j0, if_neg (by simp)]
        exact hgo
theorem gharryref25_count.calls (a0 : ByteArray) (a1 : Int) (r1 : Int) (r2 : Bool) (w : World) (h : gharryref25_count.f a0 a1 = some (r1, r2)) :
    Calls Tryd.prog 42 #[.string a0, .int .u64 a1] w fun e w' => e = .returned (.tuple #[.int .u64 r1, .bool r2]) ∧ Drawn0 w w' := by
  unfold gharryref25_count.f at h
  split at h
  rotate_left
  · cases h
  rename_i hsz
  exact HBase.gharryref25_count.calls 2000010 a0 a1 r1 r2 w ((ref_count a0 a1 hsz).trans h)
end Go.Proofs.YtflbkgpmepfhlaaDoor.Hook
