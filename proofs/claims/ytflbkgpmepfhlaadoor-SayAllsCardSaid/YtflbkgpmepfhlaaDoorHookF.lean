/- The contract of say.count: the number that digits are. It proves no statement. -/
import Derived.Test.YtflbkgpmepfhlaaDoorHookE
namespace Go.Proofs.YtflbkgpmepfhlaaDoor.Hook
open Go.RowKit Go.Proofs.YtflbkgpmepfhlaaDoorW.PrintWords Go.Proofs.YtflbkgpmepfhlaaDoorW.PrintLast Go.Proofs.YtflbkgpmepfhlaaDoorW.PrintMore Go.Proofs.YtflbkgpmepfhlaaDoor.SayPure
set_option linter.unusedVariables false

/-- The number of digits behind a number; none: a sign that is no digit, or too great a number. -/
def val : List UInt8 → Int → Option Int
  | [], n => some n
  | c :: l, n => if 48 ≤ (c.toNat : Int) ∧ (c.toNat : Int) ≤ 57 ∧ 10 * n + ((c.toNat : Int) - 48) < 18446744073709551616 then val l (10 * n + ((c.toNat : Int) - 48)) else none
def badCount (l : List UInt8) : Bool := l.isEmpty || (decide (1 < l.length) && (l.headD 0 == 48)) || decide (20 < l.length)
def countF (l : List UInt8) (most : Int) : Int × Bool := if badCount l = true then (0, false) else match val l 0 with
  | some n => (n, decide (n ≤ most))
  | none => (0, false)
theorem val_lt : ∀ (l : List UInt8) (n m : Int), 0 ≤ n → n < 18446744073709551616 → val l n = some m → 0 ≤ m ∧ m < 18446744073709551616 := by
  intro l
  induction l with
  | nil => intro n m h0 h1 h; simp only [val, Option.some.injEq] at h; omega
  | cons c l ih =>
    intro n m h0 h1 h
    rw [val] at h
    split at h
    · rename_i hc
      exact ih _ _ (by omega) (by omega) h
    · cases h

def say_count.f (a0 : ByteArray) (a1 : Int) : Option (Int × Bool) := if a0.size ≤ 9223372036854775807 then some (countF a0.data.toList a1) else none

theorem size_zero {a0 : ByteArray} (hz : a0.size = 0) : a0 = ⟨#[]⟩ := by
  cases a0 with
  | mk d => congr 1; exact Array.size_eq_zero_iff.1 hz
theorem lead_of (a0 : ByteArray) (hpos : 0 < a0.size) : bt a0 0 = ((a0.data.toList.headD 0).toNat : Int) := by
  have hbt := byte_of_bt a0 0 hpos
  have h0 := drop_cons a0.data.toList 0 (by rw [data_length]; exact hpos)
  rw [List.drop_zero] at h0
  rw [h0]
  exact hbt

set_option maxHeartbeats 2000000 in
set_option maxRecDepth 100000 in
theorem count_bad (a0 : ByteArray) (a1 : Int) (w : World) (hbad : badCount a0.data.toList = true) (hsz : a0.size ≤ 9223372036854775807) :
    Calls Tryd.prog 56 #[.string a0, .int .u64 a1] w fun e w' => e = .returned (.tuple #[.int .u64 0, .bool false]) ∧ Below w.heap.size w w' := by
  by_cases hz : a0.size = 0
  · obtain rfl := size_zero hz
    clear hz hbad hsz
    go_enter Tryd.func56, Tryd.ntmps56
    go_wp2_with fail
    go_ret2
    exact ⟨rfl, Below.refl _ _⟩
  · have hpos : 0 < a0.size := by omega
    have hem : a0.toList.isEmpty = false := by
      rw [Lib.toList_data]
      cases hq : a0.data.toList with
      | nil => rw [← data_length, hq] at hpos; simp at hpos
      | cons _ _ => rfl
    have hx := bt_at a0 0
    have hx0 : ∀ q : 0 < a0.size, ((a0[0]'q).toNat : Int) = bt a0 0 := fun q => hx q
    clear hx
    have hl := lead_of a0 hpos
    unfold badCount at hbad
    rw [data_length, ← Lib.toList_data, hem] at hbad
    simp only [Bool.false_or, Bool.or_eq_true, Bool.and_eq_true, decide_eq_true_eq, beq_iff_eq] at hbad
    rw [Lib.toList_data] at hbad
    by_cases h1 : 1 < a0.size ∧ a0.data.toList.headD 0 = 48
    · have hb1 : decide ((1 : Int) < (a0.size : Int)) = true := decide_eq_true (by omega)
      have hb2 : (bt a0 0 == 48) = true := by rw [hl, h1.2]; rfl
      have hs1 : (1 : Int) < (a0.size : Int) := by omega
      clear hl hbad h1
      go_enter Tryd.func56, Tryd.ntmps56
      go_wp2_with fail
      go_ret2
      exact ⟨rfl, Below.refl _ _⟩
    · have h20 : 20 < a0.size := by
        rcases hbad with h | h
        · exact absurd h h1
        · exact h
      have hb1 : decide ((1 : Int) < (a0.size : Int)) = true := decide_eq_true (by omega)
      have hb2 : (bt a0 0 == 48) = false := by
        rw [beq_eq_false_iff_ne]
        intro e
        apply h1
        refine ⟨by omega, ?_⟩
        rw [hl] at e
        apply UInt8.toNat_inj.1
        have : (48 : UInt8).toNat = 48 := rfl
        omega
      have hb3 : decide ((20 : Int) < (a0.size : Int)) = true := decide_eq_true (by omega)
      clear hl hbad h1
      go_enter Tryd.func56, Tryd.ntmps56
      go_wp2_with fail
      go_ret2
      exact ⟨rfl, Below.refl _ _⟩

set_option maxHeartbeats 4000000 in
set_option maxRecDepth 100000 in
theorem count_good (a0 : ByteArray) (a1 : Int) (r1 : Int) (r2 : Bool) (w : World) (hpos : 0 < a0.size) (hlead : 1 < a0.size → ¬ bt a0 0 = 48) (hlen : a0.size ≤ 20)
    (H : Aside0 ((match val a0.data.toList 0 with | some n => (n, decide (n ≤ a1)) | none => ((0 : Int), false)) = (r1, r2))) :
    Calls Tryd.prog 56 #[.string a0, .int .u64 a1] w fun e w' => e = .returned (.tuple #[.int .u64 r1, .bool r2]) ∧ Below w.heap.size w w' := by
  have hem : a0.toList.isEmpty = false := by
    rw [Lib.toList_data]
    cases hq : a0.data.toList with
    | nil => rw [← data_length, hq] at hpos; simp at hpos
    | cons _ _ => rfl
  have h20 : decide ((20 : Int) < (a0.size : Int)) = false := decide_eq_false (by omega)
  have hx := bt_at a0 0
  have hx0 : ∀ q : 0 < a0.size, ((a0[0]'q).toNat : Int) = bt a0 0 := fun q => hx q
  clear hx
  have hcv := fun W => print_bytes (P := Tryd.prog) 9 58 5 Tryd.underlying9 Tryd.underlying58 Tryd.underlying5 a0 W
  have hr := Aside0.mk (bytes_reads w 5 a0 (by omega))
  have hb := Aside0.mk (bytes_below (Below.refl w.heap.size w) (Nat.le_refl _) 5 a0)
  have two : (decide ((1 : Int) < (a0.size : Int)) = true ∧ (bt a0 0 == 48) = false) ∨ decide ((1 : Int) < (a0.size : Int)) = false := by
    by_cases h : (1 : Int) < (a0.size : Int)
    · exact .inl ⟨decide_eq_true h, beq_eq_false_iff_ne.2 (hlead (by omega))⟩
    · exact .inr (decide_eq_false h)
  clear hlead
  rcases two with ⟨hb1, hb2⟩ | hb1
  all_goals
    go_enter Tryd.func56, Tryd.ntmps56
    go_wp2_with fail
    clear hcv
    generalize Lib.bytesWorld w 5 a0 = w2 at *
    generalize grownCap w a0.size 0 5 = cp
    obtain ⟨g, hg⟩ : ∃ g, g = w.heap.size := ⟨_, rfl⟩
    rw [← hg] at hr ⊢
    have HG := Aside0.mk hg
    clear hg
    go_loop [6, 30] (fun o v => ∃ j n : Int, 0 ≤ j ∧ j ≤ (a0.size : Int) ∧ v = .int .i64 j ∧ o = .int .u64 n ∧ Aside0 (val a0.data.toList 0 = val (a0.data.toList.drop j.toNat) n) ∧ Aside0 (0 ≤ n ∧ n < 18446744073709551616)) (fun _ v => a0.size - (intOf v).toNat)
    case atStart => exact ⟨0, 0, by omega, by omega, rfl, rfl, ⟨by simp⟩, ⟨by omega⟩⟩
    case round =>
      obtain ⟨j, n, hj0, hj, rfl, rfl, HV, HN⟩ := hrel
      by_cases hlt : j < (a0.size : Int)
      · obtain ⟨ad, e1, hc0⟩ := hr.out.at_ j hj0 hlt
        obtain rfl : (⟨g, 0, none⟩ : Addr) = ad := Option.some.inj e1
        clear e1
        rw [rd_bytesOf, add_plain] at hc0
        obtain ⟨hd0, hd1⟩ := bt_range a0 j
        have b0 : decide (j < (a0.size : Int)) = true := decide_eq_true hlt
        have hk : j.toNat < a0.data.toList.length := by rw [data_length]; omega
        have hbt := byte_of_bt a0 j.toNat (by omega)
        rw [show ((j.toNat : Nat) : Int) = j from by omega] at hbt
        have hs := drop_cons a0.data.toList j.toNat hk
        have hstep : val a0.data.toList 0 = if 48 ≤ bt a0 j ∧ bt a0 j ≤ 57 ∧ 10 * n + (bt a0 j - 48) < 18446744073709551616 then val (a0.data.toList.drop (j.toNat + 1)) (10 * n + (bt a0 j - 48)) else none := by
          rw [HV.out, hs, val, ← hbt]
        have HS := Aside0.mk hstep
        clear hstep hs hbt HV
        by_cases hdig : 48 ≤ bt a0 j ∧ bt a0 j ≤ 57
        · have hq0 : decide (bt a0 j < 48) = false := decide_eq_false (by omega)
          have hq1 : decide (57 < bt a0 j) = false := decide_eq_false (by omega)
          have hq2 : (0 : Int) ≤ bt a0 j - 48 := by omega
          have hq3 : bt a0 j - 48 ≤ 9 := by omega
          go_wp2_with fail
          · obtain ⟨rfl, rfl⟩ : (0 : Int) = r1 ∧ false = r2 := by
              have hh := H.out
              rw [HS.out, if_neg (by omega)] at hh
              simpa using hh
            go_ret2
            exact ⟨rfl, hb.out⟩
          · go_round
            case rel =>
              have hn := HN.out
              have hw : IntKind.u64.wrap (IntKind.u64.wrap (10 * n) + (bt a0 j - 48)) = 10 * n + (bt a0 j - 48) := by
                have e : ∀ x : Int, IntKind.u64.wrap x = x % 18446744073709551616 := fun x => by simp [IntKind.wrap, IntKind.bits, IntKind.signed]
                rw [e, e]
                omega
              refine ⟨j + 1, 10 * n + (bt a0 j - 48), by omega, by omega, rfl, by rw [hw], ⟨?_⟩, ⟨by omega⟩⟩
              rw [HS.out, if_pos (by omega), show (j + 1).toNat = j.toNat + 1 from by omega]
            case measure => simp [intOf]; omega
        · obtain ⟨rfl, rfl⟩ : (0 : Int) = r1 ∧ false = r2 := by
            have hh := H.out
            rw [HS.out, if_neg (by omega)] at hh
            simpa using hh
          by_cases hlow : bt a0 j < 48
          · have hq0 : decide (bt a0 j < 48) = true := decide_eq_true hlow
            go_wp2_with fail
            go_ret2
            exact ⟨rfl, hb.out⟩
          · have hq0 : decide (bt a0 j < 48) = false := decide_eq_false hlow
            have hq1 : decide (57 < bt a0 j) = true := decide_eq_true (by omega)
            go_wp2_with fail
            go_ret2
            exact ⟨rfl, hb.out⟩
      · have b0 : decide (j < (a0.size : Int)) = false := decide_eq_false hlt
        have hnil : a0.data.toList.drop j.toNat = [] := by rw [List.drop_eq_nil_iff, data_length]; omega
        obtain ⟨rfl, rfl⟩ : n = r1 ∧ decide (n ≤ a1) = r2 := by
          have hh := H.out
          rw [HV.out, hnil] at hh
          simpa [val] using hh
        clear hnil
        go_wp2_with fail
        go_ret2
        exact ⟨rfl, hb.out⟩

theorem say_count.calls (a0 : ByteArray) (a1 : Int) (r1 : Int) (r2 : Bool) (w : World) (h : say_count.f a0 a1 = some (r1, r2)) :
    Calls Tryd.prog 56 #[.string a0, .int .u64 a1] w fun e w' => e = .returned (.tuple #[.int .u64 r1, .bool r2]) ∧ Below w.heap.size w w' := by
  unfold say_count.f at h
  split at h
  rotate_left
  · cases h
  rename_i hsz
  have h' := Option.some.inj h
  clear h
  unfold countF at h'
  by_cases hbad : badCount a0.data.toList = true
  · rw [if_pos hbad] at h'
    obtain ⟨rfl, rfl⟩ := Prod.mk.inj h'
    exact count_bad a0 a1 w hbad hsz
  · rw [if_neg hbad] at h'
    have hb := hbad
    unfold badCount at hb
    rw [data_length] at hb
    simp only [Bool.or_eq_true, Bool.and_eq_true, decide_eq_true_eq, beq_iff_eq, not_or, not_and] at hb
    have hpos : 0 < a0.size := by
      rw [← data_length]
      cases hq : a0.data.toList with
      | nil => rw [hq] at hb; simp at hb
      | cons _ _ => simp
    refine count_good a0 a1 r1 r2 w hpos (fun h1 => ?_) (by omega) ⟨h'⟩
    rw [lead_of a0 hpos]
    intro e
    apply hb.1.2 h1
    apply UInt8.toNat_inj.1
    have : (48 : UInt8).toNat = 48 := rfl
    omega
end Go.Proofs.YtflbkgpmepfhlaaDoor.Hook
