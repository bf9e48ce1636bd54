/- Texts of this proof, put together: WalG, HookRj, WalC, TopA, PureRound. They prove no statement. -/
import Derived.Test.YteoebfiacnploaaGreatQWalF
import Derived.Test.YteoebfiacnploaaGreatQG2
import Derived.Test.YteoebfiacnploaaGreatQHookRg
import Derived.Test.YteoebfiacnploaaGreatQG6
import Derived.Test.YteoebfiacnploaaGreatQFsumSeal
import Derived.Test.YteoebfiacnploaaGreatQPureTot
import Derived.Test.YteoebfiacnploaaGreatQG4
import Derived.Test.YteoebfiacnploaaGreatQG3
import Derived.Deep.LoopGhost
namespace Go.Proofs.YteoebfiacnploaaGreat.HRec
open Go.RowKit Go.Proofs.YteoebfiacnploaaGreatW.PrintWords Go.Proofs.YteoebfiacnploaaGreatW.PrintLast Go.Proofs.YteoebfiacnploaaGreatW.PrintMore
set_option linter.unusedVariables false
set_option linter.unusedSimpArgs false
theorem whole_nil : wal_whole.f 10 ⟨#[]⟩ = some 0 := by kernel_rfl
theorem IsLog.set_5 {W : World} {L d : Nat} {base sectors run : Int} {all : ByteArray} {dur : Int} (h : IsLog W L d base sectors run all dur) (x : Int) : IsLog (W.setCell ⟨L, 5, none⟩ (.int .i64 x)) L d base sectors run all x := by unfold IsLog; simpa using blk_set h 5 (.int .i64 x)
set_option maxHeartbeats 8000000 in
set_option maxRecDepth 100000 in
theorem wal_Open (d m : Nat) (A : Option Addr) (c : Nat) (w0 w : World) (h : IsDisk w d m A 200 c 0) (hm : w.heap[m]? = some (.map #[] 0)) (hr : Kd.R Kd.string 9 w w0.heap.size (fun k => k < m) (.slice A 200 c) (List.replicate 200 ⟨#[]⟩)) (hmd : m < d) (hB : Below w0.heap.size w0 w) (hm0 : w0.heap.size ≤ m) :
    Calls Tryz.prog 19 #[.pointer (some ⟨d, 0, none⟩), .int .i64 0, .int .i64 200, .int .i64 1] w fun e w' => ∃ L, e = .returned (.tuple #[.pointer (some ⟨L, 0, none⟩), .int .i64 0]) ∧ IsLog w' L d 0 200 1 ⟨#[]⟩ 0 ∧ w0.heap.size ≤ L ∧ Below w0.heap.size w0 w' := by
  have HC := Aside0.mk (wal_check d m A c 0 w h); have hu59 := Tryz.underlying59
  have hdl : d < w.heap.size := (Array.getElem?_eq_some_iff.1 h).1
  have hml : m < w.heap.size := (Array.getElem?_eq_some_iff.1 hm).1
  have hl0 : w0.heap.size ≤ w.heap.size := hB.size
  have L1 : Aside0 (IsLog (w.alloc (.cells #[.pointer (some ⟨d, 0, none⟩), .int .i64 0, .int .i64 200, .int .i64 1, .string ⟨#[]⟩, .int .i64 0, .bool false] 59)) w.heap.size d 0 200 1 ⟨#[]⟩ 0) := ⟨blk_new w _⟩
  have D1 := Aside0.mk (IsDisk.below h (below_alloc (Below.refl _ _) (.cells #[.pointer (some ⟨d, 0, none⟩), .int .i64 0, .int .i64 200, .int .i64 1, .string ⟨#[]⟩, .int .i64 0, .bool false] 59)))
  have M1 := Aside0.mk ((Below.heap_alloc w (.cells #[.pointer (some ⟨d, 0, none⟩), .int .i64 0, .int .i64 200, .int .i64 1, .string ⟨#[]⟩, .int .i64 0, .bool false] 59) m hml).trans hm)
  have R1 := Aside0.mk (Kd.R_alloc hr (.cells #[.pointer (some ⟨d, 0, none⟩), .int .i64 0, .int .i64 200, .int .i64 1, .string ⟨#[]⟩, .int .i64 0, .bool false] 59))
  have B1 := Aside0.mk (below_alloc hB (.cells #[.pointer (some ⟨d, 0, none⟩), .int .i64 0, .int .i64 200, .int .i64 1, .string ⟨#[]⟩, .int .i64 0, .bool false] 59))
  have HS := Aside0.mk (log_scan w.heap.size d m A c 0 _ L1.out D1.out M1.out (Kd.R_reads' R1.out).2.2)
  have HMD := Aside0.mk hmd; have HM0 := Aside0.mk hm0; clear h hm hr hmd hB hm0
  go_enter Tryz.func19, Tryz.ntmps19
  go_wp2_with fail
  refine HC.out.mono ?_
  rintro e w1 ⟨rfl, hw⟩
  rw [hw]
  clear hw w1 HC
  go_wp2_with fail
  generalize w.alloc (.cells #[.pointer (some ⟨d, 0, none⟩), .int .i64 0, .int .i64 200, .int .i64 1, .string ⟨#[]⟩, .int .i64 0, .bool false] 59) = W1 at *
  refine HS.out.mono ?_
  rintro e w2 ⟨rfl, hb⟩
  have L2 := Aside0.mk (IsLog.below L1.out hb); have D2 := Aside0.mk (IsDisk.below D1.out hb)
  have M2 := Aside0.mk ((hb.block m (Array.getElem?_eq_some_iff.1 M1.out).1).trans M1.out)
  have R2 := Aside0.mk (Kd.R_below R1.out hb); have B2 := Aside0.mk (below_step B1.out hb); clear hb HS L1 D1 M1 R1 B1
  go_wp2_with fail
  refine (wal_whole.calls 10 ⟨#[]⟩ 0 w2 whole_nil).mono ?_
  rintro e w3 ⟨rfl, hb⟩
  have L3 := Aside0.mk (IsLog.below L2.out hb); have D3 := Aside0.mk (IsDisk.below D2.out hb)
  have M3 := Aside0.mk ((hb.block m (Array.getElem?_eq_some_iff.1 M2.out).1).trans M2.out)
  have R3 := Aside0.mk (Kd.R_below R2.out hb); have B3 := Aside0.mk (below_step B2.out hb); clear hb L2 D2 M2 R2 B2; have c4 := IsLog.at_4 L3.out; have f4 := IsLog.free L3.out 4; have c5 := IsLog.at_5 L3.out; have f5 := IsLog.free L3.out 5
  go_wp2_with fail
  have ho : ∀ k, k ≠ w.heap.size → ((w3.setCell ⟨w.heap.size, 4, none⟩ (.string ByteArray.empty)).setCell ⟨w.heap.size, 5, none⟩ (.int .i64 0)).heap[k]? = w3.heap[k]? := fun k hk => (Below.heap_setCell _ _ _ k hk).trans (Below.heap_setCell _ _ _ k hk)
  have L4 : IsLog ((w3.setCell ⟨w.heap.size, 4, none⟩ (.string ByteArray.empty)).setCell ⟨w.heap.size, 5, none⟩ (.int .i64 0)) w.heap.size d 0 200 1 ⟨#[]⟩ 0 := IsLog.set_5 (IsLog.set_4 L3.out ByteArray.empty) 0
  have D4 : IsDisk ((w3.setCell ⟨w.heap.size, 4, none⟩ (.string ByteArray.empty)).setCell ⟨w.heap.size, 5, none⟩ (.int .i64 0)) d m A 200 c 0 := (ho d (Nat.ne_of_lt hdl)).trans D3.out
  have M4 := (ho m (Nat.ne_of_lt hml)).trans M3.out
  have R4 : Kd.R Kd.string 9 ((w3.setCell ⟨w.heap.size, 4, none⟩ (.string ByteArray.empty)).setCell ⟨w.heap.size, 5, none⟩ (.int .i64 0)) w0.heap.size (fun k => k < m) (.slice A 200 c) (List.replicate 200 ⟨#[]⟩) := Kd.R_step R3.out (fun k hk _ => ho k (Nat.ne_of_lt (Nat.lt_trans hk hml)))
  have B4 := below_set (j := 5) (v := .int .i64 0) (below_set (j := 4) (v := .string ByteArray.empty) B3.out hl0) hl0
  have HE := Aside0.mk (log_mend w.heap.size d m A c 0 (List.replicate 200 ⟨#[]⟩) w0 ((w3.setCell ⟨w.heap.size, 4, none⟩ (.string ByteArray.empty)).setCell ⟨w.heap.size, 5, none⟩ (.int .i64 0)) L4 D4 M4 R4 HMD.out hdl B4 HM0.out (by omega) (by omega))
  clear L4 D4 M4 R4 B4 ho L3 D3 M3 R3 B3 c4 f4 c5 f5
  refine HE.out.mono ?_
  rintro e w5 ⟨rfl, hl, hb⟩
  have L5 := Aside0.mk hl; have B5 := Aside0.mk hb; clear hl hb HE
  go_wp2_with fail
  go_ret2
  exact ⟨_, rfl, L5.out, hl0, B5.out⟩
end Go.Proofs.YteoebfiacnploaaGreat.HRec
namespace Go.Proofs.YteoebfiacnploaaGreat.HRec
open Go.RowKit Go.Proofs.YteoebfiacnploaaGreatW.PrintWords Go.Proofs.YteoebfiacnploaaGreatW.PrintLast Go.Proofs.YteoebfiacnploaaGreatW.PrintMore
set_option linter.unusedVariables false
set_option linter.unusedSimpArgs false
/-- A record's frame: its bytes, or the error. -/
def frameF (y : RecT) : Option (ByteArray × Int) :=
  (rec_body.f y.1 y.2.1 y.2.2.1 y.2.2.2.1 y.2.2.2.2.1 y.2.2.2.2.2.1 y.2.2.2.2.2.2.1 y.2.2.2.2.2.2.2.1 y.2.2.2.2.2.2.2.2.1 y.2.2.2.2.2.2.2.2.2.1 y.2.2.2.2.2.2.2.2.2.2.1 y.2.2.2.2.2.2.2.2.2.2.2.1 y.2.2.2.2.2.2.2.2.2.2.2.2).bind fun b =>
    if b.2 = 0 then (pack_Put.f 20 ⟨#[]⟩ (b.1.size : Int) 2).bind fun p => (sum_Seal.f 20 b.1).bind fun t => if p.1.size + t.size ≤ 9223372036854775807 then some (p.1 ++ t, 0) else none
    else some (⟨#[]⟩, b.2)
theorem frame_tot (y : RecT) (h9 : y.2.2.2.2.2.2.2.2.2.1.length ≤ 9223372036854775807) : ∃ s e, frameF y = some (s, e) ∧ s.size ≤ 5000 := by
  obtain ⟨y0, y1, y2, y3, y4, y5, y6, y7, y8, y9, y10, y11, y12⟩ := y
  obtain ⟨s, e, q, z⟩ := body_tot y0 y1 y2 y3 y4 y5 y6 y7 y8 y9 y10 y11 y12 h9
  unfold frameF
  dsimp only
  rw [q, Option.bind_some]
  dsimp only
  by_cases he : e = 0
  · obtain ⟨p, e2, q2, z2, _⟩ := put_tot 20 ⟨#[]⟩ (s.size : Int) 2 (by omega) (by decide)
    obtain ⟨t, q3, z3⟩ := Seal_tot 20 s (by omega) z
    rw [empty_size] at z2
    rw [if_pos he, q2, Option.bind_some, q3, Option.bind_some]
    dsimp only
    rw [if_pos (by omega)]
    exact ⟨_, _, rfl, by rw [ByteArray.size_append]; omega⟩
  · rw [if_neg he]
    exact ⟨_, _, rfl, Nat.zero_le _⟩
set_option maxHeartbeats 8000000 in
set_option maxRecDepth 100000 in
theorem rec_Frame.calls (x0 x1 x2 x3 x4 : Int) (k o n : ByteArray) (x8 : Int) (A9 : Option Addr) (c9 : Nat) (l9 : List S144) (A10 : Option Addr) (c10 : Nat) (l10 : List S36) (x11 x12 : Int) (r1 : ByteArray) (r2 : Int) (w : World) (hr9 : Kd.C k144 w A9 l9.length l9) (hc9 : l9.length ≤ c9) (hr10 : Kd.C k36 w A10 l10.length l10) (hc10 : l10.length ≤ c10) (h : frameF (cleanR x0 x1 x2 x3 x4 k o n x8 l9 l10 x11 x12) = some (r1, r2)) :
    Calls Tryz.prog 27 #[.agg #[.int .i64 x0, .int .i64 x1, .int .i64 x2, .int .i64 x3, .int .i64 x4, .string k, .string o, .string n, .int .i64 x8, .slice A9 l9.length c9, .slice A10 l10.length c10, .int .i64 x11, .int .i64 x12]] w fun e w' => e = .returned (.tuple #[.string r1, .int .i64 r2]) ∧ Below w.heap.size w w' := by
  have hu32 := Tryz.underlying32
  have HC := Aside0.mk (rec_Clean.calls x0 x1 x2 x3 x4 k o n x8 A9 c9 l9 A10 c10 l10 x11 x12 (w.alloc (.cells #[.int .i64 x0, .int .i64 x1, .int .i64 x2, .int .i64 x3, .int .i64 x4, .string k, .string o, .string n, .int .i64 x8, .slice A9 l9.length c9, .slice A10 l10.length c10, .int .i64 x11, .int .i64 x12] 32)) (Kd.C_alloc hr9 _) hc9 (Kd.C_alloc hr10 _) hc10)
  have HB := Aside0.mk (below_alloc (Below.refl w.heap.size w) (.cells #[.int .i64 x0, .int .i64 x1, .int .i64 x2, .int .i64 x3, .int .i64 x4, .string k, .string o, .string n, .int .i64 x8, .slice A9 l9.length c9, .slice A10 l10.length c10, .int .i64 x11, .int .i64 x12] 32))
  clear hr9 hc9 hr10 hc10
  generalize cleanR x0 x1 x2 x3 x4 k o n x8 l9 l10 x11 x12 = y at *
  obtain ⟨y0, y1, y2, y3, y4, y5, y6, y7, y8, y9, y10, y11, y12⟩ := y
  unfold frameF at h
  dsimp only at h
  replace h := Option.bind_eq_some_iff.mp h
  obtain ⟨⟨t, e⟩, A3, h⟩ := h
  have A3 := Aside0.mk A3; have H := Aside0.mk h; clear h
  go_enter Tryz.func27, Tryz.ntmps27
  go_wp2_with fail
  refine HC.out.mono ?_
  rintro e0 w1 ⟨v, rfl, ⟨B9, d9, B10, d10, rfl, g9, z9, g10, z10⟩, hb⟩
  have HB1 := Aside0.mk (below_step HB.out hb); have G9 := Aside0.mk (Kd.C_below g9 hb); have G10 := Aside0.mk (Kd.C_below g10 hb); have Z9 := Aside0.mk z9; have Z10 := Aside0.mk z10; clear hb g9 g10 z9 z10 HB HC
  go_wp2_with fail
  refine (rec_body.calls y0 y1 y2 y3 y4 y5 y6 y7 y8 B9 d9 y9 B10 d10 y10 y11 y12 t e w1 G9.out Z9.out G10.out Z10.out A3.out).mono ?_
  rintro e0 w2 ⟨rfl, hb⟩
  have HB2 := Aside0.mk (below_step HB1.out hb); clear hb HB1 G9 G10 Z9 Z10 A3
  by_cases he : e = 0
  · have h := H.out
    (try dsimp only at h)
    rw [if_pos he] at h
    have b0 : (e != 0) = false := bne_eq_false_iff_eq.mpr he
    clear he
    replace h := Option.bind_eq_some_iff.mp h
    obtain ⟨⟨p, ep⟩, A4, h⟩ := h
    replace h := Option.bind_eq_some_iff.mp h
    obtain ⟨q, A5, h⟩ := h
    (try dsimp only at h)
    by_cases hz : p.size + q.size ≤ 9223372036854775807
    · rw [if_pos hz] at h
      simp only [Option.some.injEq, Prod.mk.injEq] at h
      obtain ⟨rfl, rfl⟩ := h
      have A4 := Aside0.mk A4; have A5 := Aside0.mk A5; clear H
      go_wp2_with fail
      refine (pack_Put.calls 20 ⟨#[]⟩ (t.size : Int) 2 p ep w2 A4.out).mono ?_
      rintro e0 w3 ⟨rfl, hb⟩
      have HB3 := Aside0.mk (below_step HB2.out hb); clear hb HB2 A4
      go_wp2_with fail
      refine (sum_Seal.calls 20 t q w3 A5.out).mono ?_
      rintro e0 w4 ⟨rfl, hb⟩
      have HB4 := Aside0.mk (below_step HB3.out hb); clear hb HB3 A5
      go_wp2_with fail
      go_ret2
      exact ⟨rfl, HB4.out⟩
    · rw [if_neg hz] at h
      exact absurd h (by simp)
  · have h := H.out
    (try dsimp only at h)
    rw [if_neg he] at h
    have b0 : (e != 0) = true := bne_iff_ne.mpr he
    simp only [Option.some.injEq, Prod.mk.injEq] at h
    obtain ⟨rfl, rfl⟩ := h
    clear H he
    go_wp2_with fail
    go_ret2
    exact ⟨rfl, HB2.out⟩
end Go.Proofs.YteoebfiacnploaaGreat.HRec
namespace Go.Proofs.YteoebfiacnploaaGreat.HRec
open Go.RowKit Go.Proofs.YteoebfiacnploaaGreatW.PrintWords Go.Proofs.YteoebfiacnploaaGreatW.PrintLast Go.Proofs.YteoebfiacnploaaGreatW.PrintMore
set_option linter.unusedVariables false
set_option linter.unusedSimpArgs false
/-- What an Append makes of a log's bytes, out of the frame or its error; where; the error. -/
def appF (all s : ByteArray) (e : Int) : ByteArray × Int × Int := if e = 0 then addF all s else (all, 0, e)
theorem addF_size (all s : ByteArray) (h : all.size ≤ 11600) : (addF all s).1.size ≤ 11600 := by
  unfold addF
  by_cases hc : (s.size : Int) > 11600 - (all.size : Int)
  · rw [if_pos hc]; exact h
  · rw [if_neg hc]; show (all ++ s).size ≤ 11600; rw [ByteArray.size_append]; omega
theorem appF_size (all s : ByteArray) (e : Int) (h : all.size ≤ 11600) : (appF all s e).1.size ≤ 11600 := by
  unfold appF
  by_cases hc : e = 0
  · rw [if_pos hc]; exact addF_size all s h
  · rw [if_neg hc]; exact h
set_option maxHeartbeats 8000000 in
set_option maxRecDepth 100000 in
theorem log_Append (L d : Nat) (base run : Int) (all : ByteArray) (dur : Int) (x0 x1 x2 x3 x4 : Int) (k o n : ByteArray) (x8 : Int) (A9 : Option Addr) (c9 : Nat) (l9 : List S144) (A10 : Option Addr) (c10 : Nat) (l10 : List S36) (x11 x12 : Int) (s : ByteArray) (e : Int) (w0 w : World) (h : IsLog w L d base 200 run all dur) (hs : all.size ≤ 11600) (hB : Below w0.heap.size w0 w) (hL : w0.heap.size ≤ L) (hr9 : Kd.C k144 w A9 l9.length l9) (hc9 : l9.length ≤ c9) (hr10 : Kd.C k36 w A10 l10.length l10) (hc10 : l10.length ≤ c10) (hf : frameF (cleanR x0 x1 x2 x3 x4 k o n x8 l9 l10 x11 x12) = some (s, e)) :
    Calls Tryz.prog 15 #[.pointer (some ⟨L, 0, none⟩), .agg #[.int .i64 x0, .int .i64 x1, .int .i64 x2, .int .i64 x3, .int .i64 x4, .string k, .string o, .string n, .int .i64 x8, .slice A9 l9.length c9, .slice A10 l10.length c10, .int .i64 x11, .int .i64 x12]] w fun ex w' => ex = .returned (.tuple #[.int .i64 (appF all s e).2.1, .int .i64 (appF all s e).2.2]) ∧ IsLog w' L d base 200 run (appF all s e).1 dur ∧ Below w0.heap.size w0 w' := by
  have hu32 := Tryz.underlying32
  have HF := Aside0.mk (rec_Frame.calls x0 x1 x2 x3 x4 k o n x8 A9 c9 l9 A10 c10 l10 x11 x12 s e (w.alloc (.cells #[.int .i64 x0, .int .i64 x1, .int .i64 x2, .int .i64 x3, .int .i64 x4, .string k, .string o, .string n, .int .i64 x8, .slice A9 l9.length c9, .slice A10 l10.length c10, .int .i64 x11, .int .i64 x12] 32)) (Kd.C_alloc hr9 _) hc9 (Kd.C_alloc hr10 _) hc10 hf)
  have HL := Aside0.mk (IsLog.below h (below_alloc (Below.refl _ _) (.cells #[.int .i64 x0, .int .i64 x1, .int .i64 x2, .int .i64 x3, .int .i64 x4, .string k, .string o, .string n, .int .i64 x8, .slice A9 l9.length c9, .slice A10 l10.length c10, .int .i64 x11, .int .i64 x12] 32)))
  have HB := Aside0.mk (below_alloc hB (.cells #[.int .i64 x0, .int .i64 x1, .int .i64 x2, .int .i64 x3, .int .i64 x4, .string k, .string o, .string n, .int .i64 x8, .slice A9 l9.length c9, .slice A10 l10.length c10, .int .i64 x11, .int .i64 x12] 32))
  clear h hB hr9 hc9 hr10 hc10 hf; have HG := Aside0.mk hL; have HS := Aside0.mk hs; clear hL hs
  by_cases he : e = 0
  · have ea : appF all s e = addF all s := if_pos he
    rw [ea]
    have b0 : (e != 0) = false := bne_eq_false_iff_eq.mpr he
    clear he ea
    go_enter Tryz.func15, Tryz.ntmps15
    go_wp2_with fail
    refine (log_off L d base 200 run all dur _ HL.out).mono ?_
    rintro e0 w1 ⟨rfl, rfl⟩
    go_wp2_with fail
    refine HF.out.mono ?_
    rintro e0 w2 ⟨rfl, hb⟩
    have HL2 := Aside0.mk (IsLog.below HL.out hb); have HB2 := Aside0.mk (below_step HB.out hb); clear hb HB HL HF
    go_wp2_with fail
    refine (log_add L d base run all s dur w0 w2 HL2.out HS.out HB2.out HG.out).mono ?_
    rintro e0 w3 ⟨rfl, hl, hb, _⟩
    have HL3 := Aside0.mk hl; have HB3 := Aside0.mk hb; clear hl hb
    go_wp2_with fail
    go_ret2
    exact ⟨rfl, HL3.out, HB3.out⟩
  · have ea : appF all s e = (all, 0, e) := if_neg he
    rw [ea]
    have b0 : (e != 0) = true := bne_iff_ne.mpr he
    clear he ea
    go_enter Tryz.func15, Tryz.ntmps15
    go_wp2_with fail
    refine (log_off L d base 200 run all dur _ HL.out).mono ?_
    rintro e0 w1 ⟨rfl, rfl⟩
    go_wp2_with fail
    refine HF.out.mono ?_
    rintro e0 w2 ⟨rfl, hb⟩
    have HL2 := Aside0.mk (IsLog.below HL.out hb); have HB2 := Aside0.mk (below_step HB.out hb); clear hb HB HL HF
    go_wp2_with fail
    go_ret2
    exact ⟨rfl, HL2.out, HB2.out⟩
end Go.Proofs.YteoebfiacnploaaGreat.HRec
namespace Go.Proofs.YteoebfiacnploaaGreat.HRec
open Go.RowKit Go.Proofs.YteoebfiacnploaaGreatW.PrintWords Go.Proofs.YteoebfiacnploaaGreatW.PrintLast Go.Proofs.YteoebfiacnploaaGreatW.PrintMore
set_option linter.unusedVariables false
set_option linter.unusedSimpArgs false
theorem cleanR_len (x0 x1 x2 x3 x4 : Int) (k o n : ByteArray) (x8 : Int) (l9 : List S144) (l10 : List S36) (x11 x12 : Int) : (cleanR x0 x1 x2 x3 x4 k o n x8 l9 l10 x11 x12).2.2.2.2.2.2.2.2.2.1.length ≤ l9.length := by
  unfold cleanR
  split
  · exact Nat.le_refl _
  split
  · exact Nat.zero_le _
  split
  · exact Nat.zero_le _
  split
  · exact Nat.zero_le _
  split
  · exact Nat.zero_le _
  split
  · exact Nat.zero_le _
  · exact Nat.zero_le _
end Go.Proofs.YteoebfiacnploaaGreat.HRec
namespace Go.Proofs.YteoebfiacnploaaGreat.HRec
open Go.RowKit Go.Proofs.YteoebfiacnploaaGreatW.PrintWords Go.Proofs.YteoebfiacnploaaGreatW.PrintLast Go.Proofs.YteoebfiacnploaaGreatW.PrintMore
set_option linter.unusedVariables false
set_option linter.unusedSimpArgs false
theorem or_add (a c : Nat) (ha : a < 1099511627776) (hc : c < 256) : Go.bits .or .i64 (wrap64 ((a : Int) * 256)) (c : Int) = ((a * 256 + c : Nat) : Int) := by
  have h1 : wrap64 ((a : Int) * 256) = ((a * 256 : Nat) : Int) := by rw [w64 (by omega) (by omega)]; omega
  rw [h1]
  have h2 : (BitVec.ofInt 64 ((a * 256 : Nat) : Int) ||| BitVec.ofInt 64 (c : Int)).toNat = a * 256 + c := by
    rw [BitVec.toNat_or, BitVec.ofInt_natCast, BitVec.ofInt_natCast, BitVec.toNat_ofNat, BitVec.toNat_ofNat, Nat.mod_eq_of_lt (by omega), Nat.mod_eq_of_lt (by omega)]
    have := Nat.shiftLeft_add_eq_or_of_lt (i := 8) (b := c) (by omega) a
    rw [Nat.shiftLeft_eq] at this
    exact this.symm
  show IntKind.wrap .i64 (((BitVec.ofInt 64 ((a * 256 : Nat) : Int) ||| BitVec.ofInt 64 (c : Int)).toNat : Nat) : Int) = _
  rw [h2, i64_w]
  exact w64 (by omega) (by omega)
theorem numA : ∀ (l : List UInt8) (a m : Nat), a < 256 ^ m → m + l.length ≤ 6 → l.foldl (fun n c => Go.bits .or .i64 (wrap64 (n * 256)) (c.toNat : Int)) (a : Int) = ((l.foldl (fun n c => n * 256 + c.toNat) a : Nat) : Int)
  | [], a, m, _, _ => rfl
  | c :: l, a, m, ha, hm => by
    rw [List.length_cons] at hm
    have hp : 256 ^ m ≤ 256 ^ 5 := Nat.pow_le_pow_right (by omega) (by omega)
    have hc := c.toNat_lt
    simp only [List.foldl_cons]
    rw [or_add a c.toNat (by omega) (by omega)]
    refine numA l (a * 256 + c.toNat) (m + 1) ?_ (by omega)
    rw [Nat.pow_succ]
    omega
/-- A number's bytes, the highest first. -/
def bytesN : Nat → Nat → List UInt8
  | 0, _ => []
  | w + 1, n => bytesN w (n / 256) ++ [UInt8.ofNat (n % 256)]
theorem bytesN_length : ∀ (w n : Nat), (bytesN w n).length = w
  | 0, _ => rfl
  | w + 1, n => by unfold bytesN; rw [List.length_append, bytesN_length w]; rfl
theorem bytesN_val : ∀ (w n : Nat), n < 256 ^ w → (bytesN w n).foldl (fun n c => n * 256 + c.toNat) 0 = n
  | 0, n, h => by simp at h; subst h; rfl
  | w + 1, n, h => by
    unfold bytesN
    rw [List.foldl_append, bytesN_val w (n / 256) (by rw [Nat.pow_succ] at h; omega)]
    show n / 256 * 256 + (UInt8.ofNat (n % 256)).toNat = n
    have : (UInt8.ofNat (n % 256)).toNat = n % 256 := by simp
    omega
theorem numB_bytes (w n : Nat) (h : n < 256 ^ w) (hw : w ≤ 6) : numB (bytesN w n) = (n : Int) := by
  unfold numB
  have := numA (bytesN w n) 0 0 (by simp) (by rw [bytesN_length]; omega)
  rw [bytesN_val w n h] at this
  exact this
theorem bytesN_get : ∀ (w n i : Nat), i < w → (bytesN w n)[i]? = some (UInt8.ofNat (n / 256 ^ (w - 1 - i) % 256))
  | 0, n, i, h => absurd h (by omega)
  | w + 1, n, i, h => by
    unfold bytesN
    by_cases hi : i < w
    · rw [List.getElem?_append_left (by rw [bytesN_length]; exact hi), bytesN_get w (n / 256) i hi, Nat.div_div_eq_div_mul]
      have : 256 * 256 ^ (w - 1 - i) = 256 ^ (w + 1 - 1 - i) := by
        rw [show w + 1 - 1 - i = (w - 1 - i) + 1 by omega, Nat.pow_succ, Nat.mul_comm]
      rw [this]
    · obtain rfl : i = w := by omega
      rw [List.getElem?_append_right (by rw [bytesN_length]; exact Nat.le_refl _), bytesN_length, Nat.sub_self, show i + 1 - 1 - i = 0 by omega, Nat.pow_zero, Nat.div_one]
      rfl
def bytesB (w n : Nat) : ByteArray := ⟨(bytesN w n).toArray⟩
theorem bytesB_size (w n : Nat) : (bytesB w n).size = w := by
  show (bytesN w n).toArray.size = w
  rw [List.size_toArray, bytesN_length]
theorem shr_byte (n w i : Nat) (hi : i < w) (hw : w ≤ 6) : shr .i64 (n : Int) (8 * ((w : Int) - 1 - (i : Int))) % 256 = ((n / 256 ^ (w - 1 - i) % 256 : Nat) : Int) := by
  have e1 : (8 * ((w : Int) - 1 - (i : Int))).toNat = 8 * (w - 1 - i) := by omega
  have e2 : min (8 * (w - 1 - i)) 64 = 8 * (w - 1 - i) := by omega
  have e3 : (2 : Nat) ^ (8 * (w - 1 - i)) = 256 ^ (w - 1 - i) := by rw [Nat.pow_mul]
  show ((n : Int) / 2 ^ min (8 * ((w : Int) - 1 - (i : Int))).toNat 64) % 256 = _
  rw [e1, e2, ← e3, Int.natCast_emod, Int.natCast_ediv, Int.natCast_pow]
  rfl
theorem put_l_val : ∀ (f k : Nat) (x0 : ByteArray) (n w : Nat) (x8 : List Int) (i : Nat), i ≤ w → w ≤ 6 → x8.length = w → (∀ j, j < i → x8[j]? = some ((n / 256 ^ (w - 1 - j) % 256 : Nat) : Int)) → w - i ≤ f → f + 1 ≤ k → x0.size ≤ 1000000000 → pack_Put.l0 k x0 (n : Int) (w : Int) x8 (w : Int) (i : Int) = some (x0 ++ bytesB w n, 0)
  | f, 0, _, _, _, _, _, _, _, _, _, _, hk, _ => absurd hk (by omega)
  | f, k + 1, x0, n, w, x8, i, hi, hw, hl, hx, hf, hk, hs => by
    unfold pack_Put.l0
    by_cases hc : i < w
    · have e1 : wrap64 ((w : Int) - 1) = w - 1 := w64 (by omega) (by omega)
      have e2 : wrap64 ((w : Int) - 1 - (i : Int)) = (w : Int) - 1 - i := w64 (by omega) (by omega)
      have e3 : wrap64 (8 * ((w : Int) - 1 - (i : Int))) = 8 * ((w : Int) - 1 - i) := w64 (by omega) (by omega)
      have e4 : wrap64 ((i : Int) + 1) = ((i + 1 : Nat) : Int) := by rw [w64 (by omega) (by omega)]; omega
      obtain ⟨f, rfl⟩ : ∃ m, f = m + 1 := ⟨f - 1, by omega⟩
      rw [if_pos (by omega), e1, e2, e3, e4, if_pos (by omega), if_pos (by omega), if_pos (by omega), shr_byte n w i hc hw]
      refine put_l_val f k x0 n w _ (i + 1) (by omega) hw (by rw [List.length_set]; exact hl) (fun j hj => ?_) (by omega) (by omega) hs
      rw [Int.toNat_natCast]
      by_cases hji : j = i
      · subst hji
        rw [List.getElem?_set_self (by omega)]
      · rw [List.getElem?_set_ne (fun h => hji h.symm)]
        exact hx j (by omega)
    · obtain rfl : i = w := by omega
      have hb : strOfNums x8 = bytesB i n := by
        unfold strOfNums bytesB
        congr 2
        apply List.ext_getElem?
        intro j
        by_cases hj : j < i
        · rw [List.getElem?_map, hx j hj, bytesN_get i n j hj]
          rfl
        · rw [List.getElem?_eq_none (by rw [List.length_map]; omega), List.getElem?_eq_none (by rw [bytesN_length]; omega)]
      rw [if_neg (by omega), hb, bytesB_size, if_pos (by omega)]
/-- A number that has room is laid by its bytes. -/
theorem put_val (k : Nat) (a : ByteArray) (n w : Nat) (hk : 9 ≤ k) (h1 : 1 ≤ w) (h6 : w ≤ 6) (hn : n < 256 ^ w) (hs : a.size ≤ 1000000000) : pack_Put.f k a (n : Int) (w : Int) = some (a ++ bytesB w n, 0) := by
  obtain ⟨k, rfl⟩ : ∃ m, k = m + 1 := ⟨k - 1, by omega⟩
  have e1 : wrap64 (8 * (w : Int)) = 8 * w := w64 (by omega) (by omega)
  have hsh : shl .i64 1 (8 * (w : Int)) = ((256 ^ w : Nat) : Int) := by
    have : w = 1 ∨ w = 2 ∨ w = 3 ∨ w = 4 ∨ w = 5 ∨ w = 6 := by omega
    rcases this with rfl | rfl | rfl | rfl | rfl | rfl <;> rfl
  unfold pack_Put.f
  rw [if_neg (by omega), decide_eq_false (by omega)]
  unfold pack_Put.j0 pack_limit.f
  dsimp only
  rw [if_neg (by decide), if_neg (by omega), e1, if_pos (by omega), Option.bind_some, hsh, if_neg (by omega), if_pos (by omega), if_pos (by omega), Option.bind_some]
  have hl : (List.replicate ((w : Int)).toNat (0 : Int)).length = w := by rw [List.length_replicate]; omega
  rw [hl]
  exact put_l_val 6 k a n w _ 0 (by omega) h6 hl (fun j hj => absurd hj (by omega)) (by omega) (by omega) hs
/-- What was laid without an error had room. -/
theorem put_room (k : Nat) (a : ByteArray) (n w : Int) (hk : 9 ≤ k) (t : ByteArray) (h : pack_Put.f k a n w = some (t, 0)) : 1 ≤ w ∧ w ≤ 6 ∧ 0 ≤ n ∧ n < 256 ^ w.toNat := by
  obtain ⟨k, rfl⟩ : ∃ m, k = m + 1 := ⟨k - 1, by omega⟩
  unfold pack_Put.f at h
  by_cases h1 : w < 1
  · rw [if_pos h1] at h
    unfold pack_Put.j0 at h
    simp at h
  · rw [if_neg h1] at h
    by_cases h6 : w > 6
    · rw [decide_eq_true h6] at h
      unfold pack_Put.j0 at h
      simp at h
    · rw [decide_eq_false h6] at h
      unfold pack_Put.j0 pack_limit.f at h
      dsimp only at h
      rw [if_neg (by decide)] at h
      by_cases hn : n < 0
      · rw [if_pos hn] at h
        simp at h
      · have e1 : wrap64 (8 * w) = 8 * w := w64 (by omega) (by omega)
        rw [if_neg hn, e1, if_pos (by omega), Option.bind_some] at h
        have hsh : shl .i64 1 (8 * w) = (256 : Int) ^ w.toNat := by
          have : w = 1 ∨ w = 2 ∨ w = 3 ∨ w = 4 ∨ w = 5 ∨ w = 6 := by omega
          rcases this with rfl | rfl | rfl | rfl | rfl | rfl <;> rfl
        rw [hsh] at h
        by_cases hg : n ≥ 256 ^ w.toNat
        · rw [if_pos hg] at h
          simp at h
        · exact ⟨by omega, by omega, by omega, by omega⟩
end Go.Proofs.YteoebfiacnploaaGreat.HRec
