/- The contract of (*pack.Reader).Num: a number of so many bytes. It proves no statement. -/
import Derived.Test.YteoebfiacnploaaGreatDoorQFpackReaderRaw
import Derived.Test.YteoebfiacnploaaGreatDoorQG2
namespace Go.Proofs.YteoebfiacnploaaGreatDoor.HRec
open Go.RowKit Go.Proofs.YteoebfiacnploaaGreatDoorW.PrintWords Go.Proofs.YteoebfiacnploaaGreatDoorW.PrintLast Go.Proofs.YteoebfiacnploaaGreatDoorW.PrintMore
set_option linter.unusedVariables false
set_option linter.unusedSimpArgs false
/-- The bytes as a number, the highest first. -/
def numB (l : List UInt8) : Int := l.foldl (fun n c => Go.bits .or .i64 (wrap64 (n * 256)) (c.toNat : Int)) 0
/-- Ahead of the reading: a width that cannot be is the first error. -/
def widthF (s : ByteArray) (p e a : Int) : ByteArray × Int × Int := if e = 0 ∧ (a < 1 ∨ 6 < a) then (s, p, 1) else (s, p, e)
def pack_Reader_Num.f (s : ByteArray) (p e a : Int) : Option (Int × ByteArray × Int × Int) :=
  (pack_Reader_Raw.f (widthF s p e a).1 (widthF s p e a).2.1 (widthF s p e a).2.2 a).bind fun r => if r.1.size ≤ 1000000 then some (numB r.1.data.toList, r.2.1, r.2.2.1, r.2.2.2) else none
theorem keep_trans' {w w1 w2 : World} {g : Nat} (h : KeepBut w w1 g none) (k : KeepBut w1 w2 g none) : KeepBut w w2 g none := h.trans k (.inl rfl)
theorem num_step (t : ByteArray) (j : Nat) (h : j < t.size) : numB (t.data.toList.take (j + 1)) = Go.bits .or .i64 (wrap64 (numB (t.data.toList.take j) * 256)) (bt t (j : Int)) := by
  have hk : j < t.data.toList.length := by rw [data_length]; exact h
  unfold numB
  rw [List.take_succ_eq_append_getElem hk, List.foldl_append]
  show Go.bits .or .i64 (wrap64 (_ * 256)) _ = _
  congr 1
  unfold bt
  rw [dif_pos (by rw [Int.toNat_natCast]; exact h)]
  simp only [Int.toNat_natCast]
  rfl
theorem num_all (t : ByteArray) : numB (t.data.toList.take t.size) = numB t.data.toList := by rw [List.take_of_length_le (by rw [data_length]; exact Nat.le_refl _)]
set_option maxHeartbeats 4000000 in
set_option maxRecDepth 100000 in
theorem pack_Reader_Num.calls (g : Nat) (s0_0 : ByteArray) (s0_1 : Int) (s0_2 : Int) (a1 : Int) (r1 : Int) (r2 : ByteArray) (r3 : Int) (r4 : Int) (w0 w : World) (hI : IsS124 w0 w g s0_0 s0_1 s0_2) (hB : Below w0.heap.size w0 w) (h : pack_Reader_Num.f s0_0 s0_1 s0_2 a1 = some (r1, r2, r3, r4)) :
    Calls Tryz.prog 47 #[.pointer (some ⟨g, 0, none⟩), .int .i64 a1] w fun e w' => e = .returned (.int .i64 r1) ∧ IsS124 w0 w' g r2 r3 r4 ∧ Below w0.heap.size w0 w' ∧ KeepBut w w' g none := by
  have HI := Aside0.mk hI; have HB := Aside0.mk hB; have HK := Aside0.mk (KeepBut.refl w g none)
  unfold pack_Reader_Num.f at h
  replace h := Option.bind_eq_some_iff.mp h
  obtain ⟨⟨t1, t2, t3, t4⟩, hraw, hr⟩ := h
  have HRAW := Aside0.mk hraw
  by_cases hz : t1.size ≤ 1000000
  rotate_left
  · exact absurd hr (by simp [hz])
  replace hr : some (numB t1.data.toList, t2, t3, t4) = some (r1, r2, r3, r4) := by simpa [hz] using hr
  simp only [Option.some.injEq, Prod.mk.injEq] at hr
  obtain ⟨rfl, rfl, rfl, rfl⟩ := hr
  clear hI hB hraw
  have hcv := fun W => print_bytes (P := Tryz.prog) 9 57 5 Tryz.underlying9 Tryz.underlying57 Tryz.underlying5 t1 W
  go_enter Tryz.func47, Tryz.ntmps47
  go_wp2_with fail
  refine (pack_Reader_off.calls g s0_0 s0_1 s0_2 (s0_2 != 0) s0_0 s0_1 s0_2 w0 _ HI.out HB.out rfl).mono ?_
  rintro e w1 ⟨rfl, h1, h2, h3⟩
  have H1 := Aside0.mk h1; have H2 := Aside0.mk h2; have H3 := Aside0.mk h3; clear h1 h2 h3
  by_cases he : s0_2 = 0
  · subst he
    by_cases hwd : a1 < 1 ∨ 6 < a1
    · have b1 : (decide (a1 < 1) || decide (6 < a1)) = true := by simpa using hwd
      by_cases h1 : a1 < 1
      · have b2 : decide (a1 < 1) = true := decide_eq_true h1
        go_wp2_with fail
        refine (pack_Reader_fail.calls g s0_0 s0_1 0 1 s0_0 s0_1 1 w0 _ H1.out H2.out rfl).mono ?_
        rintro x w2 ⟨rfl, q1, q2, q3⟩
        have I1 := Aside0.mk q1; have I2 := Aside0.mk q2
        have I3 := Aside0.mk (keep_trans' H3.out q3)
        clear q1 q2 q3
        go_wp2_with fail
        have HRW := HRAW.out
        rw [show widthF s0_0 s0_1 0 a1 = (s0_0, s0_1, 1) from if_pos ⟨rfl, hwd⟩] at HRW
        refine (pack_Reader_Raw.calls g s0_0 s0_1 (1) a1 t1 t2 t3 t4 w0 _ I1.out I2.out HRW).mono ?_
        rintro x w3 ⟨rfl, q1, q2, q3⟩
        have K1 := Aside0.mk q1; have K2 := Aside0.mk q2
        have K3 := Aside0.mk (keep_trans' I3.out q3)
        clear q1 q2 q3 HRW
        go_wp2_with fail
        have hr2 := Aside0.mk (bytes_reads w3 5 t1 (by omega)); have hb2 := Aside0.mk (bytes_below K2.out K2.out.size 5 t1); have hi2 := Aside0.mk (IsS124.grown K1.out (grown_of_below (bytes_below (Below.refl _ _) (Nat.le_refl _) 5 t1) none) (by simp))
        have hk2 := Aside0.mk (keep_trans' K3.out (KeepBut.of_below (bytes_below (Below.refl _ _) (Nat.le_refl _) 5 t1) g none))
        clear hcv
        generalize Lib.bytesWorld w3 5 t1 = w4 at *
        generalize w3.heap.size = g4 at *
        generalize grownCap w3 t1.size 0 5 = cp at *
        go_loop [5, 26] (fun v u => ∃ j : Nat, j ≤ t1.size ∧ v = .int .i64 (numB (t1.data.toList.take j)) ∧ u = .int .i64 (j : Int)) (fun v u => t1.size - (intOf u).toNat)
        case atStart => exact ⟨0, by omega, by simp [numB], rfl⟩
        case round =>
          obtain ⟨j, hj, rfl, rfl⟩ := hrel
          by_cases hlt : (j : Int) < (t1.size : Int)
          · have b0 : decide ((j : Int) < (t1.size : Int)) = true := decide_eq_true hlt
            have hs := num_step t1 j (by omega)
            generalize numB (t1.data.toList.take j) = n at *
            obtain ⟨ad, e1, hx0⟩ := hr2.out.at_ (j : Int) (by omega) hlt
            obtain rfl : (⟨g4, 0, none⟩ : Addr) = ad := Option.some.inj e1
            clear e1
            rw [rd_bytesOf, add_plain, show ((j : Int)).toNat = j from by omega] at hx0
            have HS := Aside0.mk hs
            have hbr := bt_range t1 (j : Int)
            have hw : wrap64 ((j : Int) + 1) = ((j + 1 : Nat) : Int) := by unfold wrap64; omega
            clear hs
            go_wp2_with fail
            go_round
            case rel => exact ⟨j + 1, by omega, by rw [HS.out], by first | rw [hw] | simp⟩
            case measure => simp [intOf]; omega
          · have b0 : decide ((j : Int) < (t1.size : Int)) = false := decide_eq_false hlt
            obtain rfl : j = t1.size := by omega
            go_wp2_with fail
            go_ret
            exact ⟨by simp [num_all], hi2.out, hb2.out, hk2.out⟩
      · have b2 : decide (a1 < 1) = false := decide_eq_false h1
        have b3 : decide (6 < a1) = true := decide_eq_true (by omega)
        go_wp2_with fail
        refine (pack_Reader_fail.calls g s0_0 s0_1 0 1 s0_0 s0_1 1 w0 _ H1.out H2.out rfl).mono ?_
        rintro x w2 ⟨rfl, q1, q2, q3⟩
        have I1 := Aside0.mk q1; have I2 := Aside0.mk q2
        have I3 := Aside0.mk (keep_trans' H3.out q3)
        clear q1 q2 q3
        go_wp2_with fail
        have HRW := HRAW.out
        rw [show widthF s0_0 s0_1 0 a1 = (s0_0, s0_1, 1) from if_pos ⟨rfl, hwd⟩] at HRW
        refine (pack_Reader_Raw.calls g s0_0 s0_1 (1) a1 t1 t2 t3 t4 w0 _ I1.out I2.out HRW).mono ?_
        rintro x w3 ⟨rfl, q1, q2, q3⟩
        have K1 := Aside0.mk q1; have K2 := Aside0.mk q2
        have K3 := Aside0.mk (keep_trans' I3.out q3)
        clear q1 q2 q3 HRW
        go_wp2_with fail
        have hr2 := Aside0.mk (bytes_reads w3 5 t1 (by omega)); have hb2 := Aside0.mk (bytes_below K2.out K2.out.size 5 t1); have hi2 := Aside0.mk (IsS124.grown K1.out (grown_of_below (bytes_below (Below.refl _ _) (Nat.le_refl _) 5 t1) none) (by simp))
        have hk2 := Aside0.mk (keep_trans' K3.out (KeepBut.of_below (bytes_below (Below.refl _ _) (Nat.le_refl _) 5 t1) g none))
        clear hcv
        generalize Lib.bytesWorld w3 5 t1 = w4 at *
        generalize w3.heap.size = g4 at *
        generalize grownCap w3 t1.size 0 5 = cp at *
        go_loop [5, 26] (fun v u => ∃ j : Nat, j ≤ t1.size ∧ v = .int .i64 (numB (t1.data.toList.take j)) ∧ u = .int .i64 (j : Int)) (fun v u => t1.size - (intOf u).toNat)
        case atStart => exact ⟨0, by omega, by simp [numB], rfl⟩
        case round =>
          obtain ⟨j, hj, rfl, rfl⟩ := hrel
          by_cases hlt : (j : Int) < (t1.size : Int)
          · have b0 : decide ((j : Int) < (t1.size : Int)) = true := decide_eq_true hlt
            have hs := num_step t1 j (by omega)
            generalize numB (t1.data.toList.take j) = n at *
            obtain ⟨ad, e1, hx0⟩ := hr2.out.at_ (j : Int) (by omega) hlt
            obtain rfl : (⟨g4, 0, none⟩ : Addr) = ad := Option.some.inj e1
            clear e1
            rw [rd_bytesOf, add_plain, show ((j : Int)).toNat = j from by omega] at hx0
            have HS := Aside0.mk hs
            have hbr := bt_range t1 (j : Int)
            have hw : wrap64 ((j : Int) + 1) = ((j + 1 : Nat) : Int) := by unfold wrap64; omega
            clear hs
            go_wp2_with fail
            go_round
            case rel => exact ⟨j + 1, by omega, by rw [HS.out], by first | rw [hw] | simp⟩
            case measure => simp [intOf]; omega
          · have b0 : decide ((j : Int) < (t1.size : Int)) = false := decide_eq_false hlt
            obtain rfl : j = t1.size := by omega
            go_wp2_with fail
            go_ret
            exact ⟨by simp [num_all], hi2.out, hb2.out, hk2.out⟩
    · have b2 : decide (a1 < 1) = false := decide_eq_false (by omega)
      have b3 : decide (6 < a1) = false := decide_eq_false (by omega)
      go_wp2_with fail
      have HRW := HRAW.out
      rw [show widthF s0_0 s0_1 0 a1 = (s0_0, s0_1, 0) from if_neg (fun h => hwd h.2)] at HRW
      refine (pack_Reader_Raw.calls g s0_0 s0_1 (0) a1 t1 t2 t3 t4 w0 _ H1.out H2.out HRW).mono ?_
      rintro x w3 ⟨rfl, q1, q2, q3⟩
      have K1 := Aside0.mk q1; have K2 := Aside0.mk q2
      have K3 := Aside0.mk (keep_trans' H3.out q3)
      clear q1 q2 q3 HRW
      go_wp2_with fail
      have hr2 := Aside0.mk (bytes_reads w3 5 t1 (by omega)); have hb2 := Aside0.mk (bytes_below K2.out K2.out.size 5 t1); have hi2 := Aside0.mk (IsS124.grown K1.out (grown_of_below (bytes_below (Below.refl _ _) (Nat.le_refl _) 5 t1) none) (by simp))
      have hk2 := Aside0.mk (keep_trans' K3.out (KeepBut.of_below (bytes_below (Below.refl _ _) (Nat.le_refl _) 5 t1) g none))
      clear hcv
      generalize Lib.bytesWorld w3 5 t1 = w4 at *
      generalize w3.heap.size = g4 at *
      generalize grownCap w3 t1.size 0 5 = cp at *
      go_loop [5, 26] (fun v u => ∃ j : Nat, j ≤ t1.size ∧ v = .int .i64 (numB (t1.data.toList.take j)) ∧ u = .int .i64 (j : Int)) (fun v u => t1.size - (intOf u).toNat)
      case atStart => exact ⟨0, by omega, by simp [numB], rfl⟩
      case round =>
        obtain ⟨j, hj, rfl, rfl⟩ := hrel
        by_cases hlt : (j : Int) < (t1.size : Int)
        · have b0 : decide ((j : Int) < (t1.size : Int)) = true := decide_eq_true hlt
          have hs := num_step t1 j (by omega)
          generalize numB (t1.data.toList.take j) = n at *
          obtain ⟨ad, e1, hx0⟩ := hr2.out.at_ (j : Int) (by omega) hlt
          obtain rfl : (⟨g4, 0, none⟩ : Addr) = ad := Option.some.inj e1
          clear e1
          rw [rd_bytesOf, add_plain, show ((j : Int)).toNat = j from by omega] at hx0
          have HS := Aside0.mk hs
          have hbr := bt_range t1 (j : Int)
          have hw : wrap64 ((j : Int) + 1) = ((j + 1 : Nat) : Int) := by unfold wrap64; omega
          clear hs
          go_wp2_with fail
          go_round
          case rel => exact ⟨j + 1, by omega, by rw [HS.out], by first | rw [hw] | simp⟩
          case measure => simp [intOf]; omega
        · have b0 : decide ((j : Int) < (t1.size : Int)) = false := decide_eq_false hlt
          obtain rfl : j = t1.size := by omega
          go_wp2_with fail
          go_ret
          exact ⟨by simp [num_all], hi2.out, hb2.out, hk2.out⟩
  · have b1 : (s0_2 != 0) = true := bne_iff_ne.mpr he
    rw [b1]
    go_wp2_with fail
    have HRW := HRAW.out
    rw [show widthF s0_0 s0_1 s0_2 a1 = (s0_0, s0_1, s0_2) from if_neg (fun h => he h.1)] at HRW
    refine (pack_Reader_Raw.calls g s0_0 s0_1 (s0_2) a1 t1 t2 t3 t4 w0 _ H1.out H2.out HRW).mono ?_
    rintro x w3 ⟨rfl, q1, q2, q3⟩
    have K1 := Aside0.mk q1; have K2 := Aside0.mk q2
    have K3 := Aside0.mk (keep_trans' H3.out q3)
    clear q1 q2 q3 HRW
    go_wp2_with fail
    have hr2 := Aside0.mk (bytes_reads w3 5 t1 (by omega)); have hb2 := Aside0.mk (bytes_below K2.out K2.out.size 5 t1); have hi2 := Aside0.mk (IsS124.grown K1.out (grown_of_below (bytes_below (Below.refl _ _) (Nat.le_refl _) 5 t1) none) (by simp))
    have hk2 := Aside0.mk (keep_trans' K3.out (KeepBut.of_below (bytes_below (Below.refl _ _) (Nat.le_refl _) 5 t1) g none))
    clear hcv
    generalize Lib.bytesWorld w3 5 t1 = w4 at *
    generalize w3.heap.size = g4 at *
    generalize grownCap w3 t1.size 0 5 = cp at *
    go_loop [5, 26] (fun v u => ∃ j : Nat, j ≤ t1.size ∧ v = .int .i64 (numB (t1.data.toList.take j)) ∧ u = .int .i64 (j : Int)) (fun v u => t1.size - (intOf u).toNat)
    case atStart => exact ⟨0, by omega, by simp [numB], rfl⟩
    case round =>
      obtain ⟨j, hj, rfl, rfl⟩ := hrel
      by_cases hlt : (j : Int) < (t1.size : Int)
      · have b0 : decide ((j : Int) < (t1.size : Int)) = true := decide_eq_true hlt
        have hs := num_step t1 j (by omega)
        generalize numB (t1.data.toList.take j) = n at *
        obtain ⟨ad, e1, hx0⟩ := hr2.out.at_ (j : Int) (by omega) hlt
        obtain rfl : (⟨g4, 0, none⟩ : Addr) = ad := Option.some.inj e1
        clear e1
        rw [rd_bytesOf, add_plain, show ((j : Int)).toNat = j from by omega] at hx0
        have HS := Aside0.mk hs
        have hbr := bt_range t1 (j : Int)
        have hw : wrap64 ((j : Int) + 1) = ((j + 1 : Nat) : Int) := by unfold wrap64; omega
        clear hs
        go_wp2_with fail
        go_round
        case rel => exact ⟨j + 1, by omega, by rw [HS.out], by first | rw [hw] | simp⟩
        case measure => simp [intOf]; omega
      · have b0 : decide ((j : Int) < (t1.size : Int)) = false := decide_eq_false hlt
        obtain rfl : j = t1.size := by omega
        go_wp2_with fail
        go_ret
        exact ⟨by simp [num_all], hi2.out, hb2.out, hk2.out⟩
end Go.Proofs.YteoebfiacnploaaGreatDoor.HRec
