/- Texts of this proof, put together: WalG, HookRj, WalC, TopA. They prove no statement. -/
import Derived.Test.YteoebfiacnploaaGreatQWalF
import Derived.Test.YteoebfiacnploaaGreatQG2
import Derived.Test.YteoebfiacnploaaGreatQHookRg
import Derived.Test.YteoebfiacnploaaGreatQG6
import Derived.Test.YteoebfiacnploaaGreatQFsumSeal
import Derived.Test.YteoebfiacnploaaGreatQPureTot
import Derived.Test.YteoebfiacnploaaGreatQG3
import Derived.Deep.LoopGhost
namespace Go.Proofs.YteoebfiacnploaaGreat.HRec
open Go.RowKit Go.Proofs.YteoebfiacnploaaGreatW.PrintWords Go.Proofs.YteoebfiacnploaaGreatW.PrintLast Go.Proofs.YteoebfiacnploaaGreatW.PrintMore
set_option linter.unusedVariables false
set_option linter.unusedSimpArgs false
theorem whole_nil : wal_whole.f 10 ⟨#[]⟩ = some 0 := by kernel_rfl
theorem IsLog.set_5 {W : World} {L d : Nat} {base sectors run : Int} {all : ByteArray} {dur : Int} (h : IsLog W L d base sectors run all dur) (x : Int) : IsLog (W.setCell ⟨L, 5, none⟩ (.int .i64 x)) L d base sectors run all x := by unfold IsLog; simpa using blk_set h 5 (.int .i64 x)
set_option maxHeartbeats 8000000 in
set_option maxRecDepth 100000 in
theorem wal_Open (d m : Nat) (A : Option Addr) (c : Nat) (w0 w : World) (h : IsDisk w d m A 200 c 0) (hm : w.heap[m]? = some (.map #[] 0)) (hr : Kd.R Kd.string 9 w w0.heap.size (fun k => k < m) (.slice A 200 c) (List.replicate 200 ⟨#[]⟩)) (hmd : m < d) (hB : Below w0.heap.size w0 w) (hm0 : w0.heap.size ≤ m) :
    Calls Tryz.prog 19 #[.pointer (some ⟨d, 0, none⟩), .int .i64 0, .int .i64 200, .int .i64 1] w fun e w' => ∃ L, e = .returned (.tuple #[.pointer (some ⟨L, 0, none⟩), .int .i64 0]) ∧ IsLog w' L d 0 200 1 ⟨#[]⟩ 0 ∧ w0.heap.size ≤ L ∧ Below w0.heap.size w0 w' := by
  have HC := Aside0.mk (wal_check d m A c 0 w h); have hu59 := Tryz.underlying59
  have hdl : d < w.heap.size := (Array.getElem?_eq_some_iff.1 h).1
  have hml : m < w.heap.size := (Array.getElem?_eq_some_iff.1 hm).1
  have hl0 : w0.heap.size ≤ w.heap.size := hB.size
  have L1 : Aside0 (IsLog (w.alloc (.cells #[.pointer (some ⟨d, 0, none⟩), .int .i64 0, .int .i64 200, .int .i64 1, .string ⟨#[]⟩, .int .i64 0, .bool false] 59)) w.heap.size d 0 200 1 ⟨#[]⟩ 0) := ⟨blk_new w _⟩
  have D1 := Aside0.mk (IsDisk.below h (below_alloc (Below.refl _ _) (.cells #[.pointer (some ⟨d, 0, none⟩), .int .i64 0, .int .i64 200, .int .i64 1, .string ⟨#[]⟩, .int .i64 0, .bool false] 59)))
  have M1 := Aside0.mk ((Below.heap_alloc w (.cells #[.pointer (some ⟨d, 0, none⟩), .int .i64 0, .int .i64 200, .int .i64 1, .string ⟨#[]⟩, .int .i64 0, .bool false] 59) m hml).trans hm)
  have R1 := Aside0.mk (Kd.R_alloc hr (.cells #[.pointer (some ⟨d, 0, none⟩), .int .i64 0, .int .i64 200, .int .i64 1, .string ⟨#[]⟩, .int .i64 0, .bool false] 59))
  have B1 := Aside0.mk (below_alloc hB (.cells #[.pointer (some ⟨d, 0, none⟩), .int .i64 0, .int .i64 200, .int .i64 1, .string ⟨#[]⟩, .int .i64 0, .bool false] 59))
  have HS := Aside0.mk (log_scan w.heap.size d m A c 0 _ L1.out D1.out M1.out (Kd.R_reads' R1.out).2.2)
  have HMD := Aside0.mk hmd; have HM0 := Aside0.mk hm0; clear h hm hr hmd hB hm0
  go_enter Tryz.func19, Tryz.ntmps19
  go_wp2_with fail
  refine HC.out.mono ?_
  rintro e w1 ⟨rfl, hw⟩
  rw [hw]
  clear hw w1 HC
  go_wp2_with fail
  generalize w.alloc (.cells #[.pointer (some ⟨d, 0, none⟩), .int .i64 0, .int .i64 200, .int .i64 1, .string ⟨#[]⟩, .int .i64 0, .bool false] 59) = W1 at *
  refine HS.out.mono ?_
  rintro e w2 ⟨rfl, hb⟩
  have L2 := Aside0.mk (IsLog.below L1.out hb); have D2 := Aside0.mk (IsDisk.below D1.out hb)
  have M2 := Aside0.mk ((hb.block m (Array.getElem?_eq_some_iff.1 M1.out).1).trans M1.out)
  have R2 := Aside0.mk (Kd.R_below R1.out hb); have B2 := Aside0.mk (below_step B1.out hb); clear hb HS L1 D1 M1 R1 B1
  go_wp2_with fail
  refine (wal_whole.calls 10 ⟨#[]⟩ 0 w2 whole_nil).mono ?_
  rintro e w3 ⟨rfl, hb⟩
  have L3 := Aside0.mk (IsLog.below L2.out hb); have D3 := Aside0.mk (IsDisk.below D2.out hb)
  have M3 := Aside0.mk ((hb.block m (Array.getElem?_eq_some_iff.1 M2.out).1).trans M2.out)
  have R3 := Aside0.mk (Kd.R_below R2.out hb); have B3 := Aside0.mk (below_step B2.out hb); clear hb L2 D2 M2 R2 B2; have c4 := IsLog.at_4 L3.out; have f4 := IsLog.free L3.out 4; have c5 := IsLog.at_5 L3.out; have f5 := IsLog.free L3.out 5
  go_wp2_with fail
  have ho : ∀ k, k ≠ w.heap.size → ((w3.setCell ⟨w.heap.size, 4, none⟩ (.string ByteArray.empty)).setCell ⟨w.heap.size, 5, none⟩ (.int .i64 0)).heap[k]? = w3.heap[k]? := fun k hk => (Below.heap_setCell _ _ _ k hk).trans (Below.heap_setCell _ _ _ k hk)
  have L4 : IsLog ((w3.setCell ⟨w.heap.size, 4, none⟩ (.string ByteArray.empty)).setCell ⟨w.heap.size, 5, none⟩ (.int .i64 0)) w.heap.size d 0 200 1 ⟨#[]⟩ 0 := IsLog.set_5 (IsLog.set_4 L3.out ByteArray.empty) 0
  have D4 : IsDisk ((w3.setCell ⟨w.heap.size, 4, none⟩ (.string ByteArray.empty)).setCell ⟨w.heap.size, 5, none⟩ (.int .i64 0)) d m A 200 c 0 := (ho d (Nat.ne_of_lt hdl)).trans D3.out
  have M4 := (ho m (Nat.ne_of_lt hml)).trans M3.out
  have R4 : Kd.R Kd.string 9 ((w3.setCell ⟨w.heap.size, 4, none⟩ (.string ByteArray.empty)).setCell ⟨w.heap.size, 5, none⟩ (.int .i64 0)) w0.heap.size (fun k => k < m) (.slice A 200 c) (List.replicate 200 ⟨#[]⟩) := Kd.R_step R3.out (fun k hk _ => ho k (Nat.ne_of_lt (Nat.lt_trans hk hml)))
  have B4 := below_set (j := 5) (v := .int .i64 0) (below_set (j := 4) (v := .string ByteArray.empty) B3.out hl0) hl0
  have HE := Aside0.mk (log_mend w.heap.size d m A c 0 (List.replicate 200 ⟨#[]⟩) w0 ((w3.setCell ⟨w.heap.size, 4, none⟩ (.string ByteArray.empty)).setCell ⟨w.heap.size, 5, none⟩ (.int .i64 0)) L4 D4 M4 R4 HMD.out hdl B4 HM0.out (by omega) (by omega))
  clear L4 D4 M4 R4 B4 ho L3 D3 M3 R3 B3 c4 f4 c5 f5
  refine HE.out.mono ?_
  rintro e w5 ⟨rfl, hl, hb⟩
  have L5 := Aside0.mk hl; have B5 := Aside0.mk hb; clear hl hb HE
  go_wp2_with fail
  go_ret2
  exact ⟨_, rfl, L5.out, hl0, B5.out⟩
end Go.Proofs.YteoebfiacnploaaGreat.HRec
namespace Go.Proofs.YteoebfiacnploaaGreat.HRec
open Go.RowKit Go.Proofs.YteoebfiacnploaaGreatW.PrintWords Go.Proofs.YteoebfiacnploaaGreatW.PrintLast Go.Proofs.YteoebfiacnploaaGreatW.PrintMore
set_option linter.unusedVariables false
set_option linter.unusedSimpArgs false
/-- A record's frame: its bytes, or the error. -/
def frameF (y : RecT) : Option (ByteArray × Int) :=
  (rec_body.f y.1 y.2.1 y.2.2.1 y.2.2.2.1 y.2.2.2.2.1 y.2.2.2.2.2.1 y.2.2.2.2.2.2.1 y.2.2.2.2.2.2.2.1 y.2.2.2.2.2.2.2.2.1 y.2.2.2.2.2.2.2.2.2.1 y.2.2.2.2.2.2.2.2.2.2.1 y.2.2.2.2.2.2.2.2.2.2.2.1 y.2.2.2.2.2.2.2.2.2.2.2.2).bind fun b =>
    if b.2 = 0 then (pack_Put.f 20 ⟨#[]⟩ (b.1.size : Int) 2).bind fun p => (sum_Seal.f 20 b.1).bind fun t => if p.1.size + t.size ≤ 9223372036854775807 then some (p.1 ++ t, 0) else none
    else some (⟨#[]⟩, b.2)
theorem frame_tot (y : RecT) (h9 : y.2.2.2.2.2.2.2.2.2.1.length ≤ 9223372036854775807) : ∃ s e, frameF y = some (s, e) ∧ s.size ≤ 5000 := by
  obtain ⟨y0, y1, y2, y3, y4, y5, y6, y7, y8, y9, y10, y11, y12⟩ := y
  obtain ⟨s, e, q, z⟩ := body_tot y0 y1 y2 y3 y4 y5 y6 y7 y8 y9 y10 y11 y12 h9
  unfold frameF
  dsimp only
  rw [q, Option.bind_some]
  dsimp only
  by_cases he : e = 0
  · obtain ⟨p, e2, q2, z2, _⟩ := put_tot 20 ⟨#[]⟩ (s.size : Int) 2 (by omega) (by decide)
    obtain ⟨t, q3, z3⟩ := Seal_tot 20 s (by omega) z
    rw [empty_size] at z2
    rw [if_pos he, q2, Option.bind_some, q3, Option.bind_some]
    dsimp only
    rw [if_pos (by omega)]
    exact ⟨_, _, rfl, by rw [ByteArray.size_append]; omega⟩
  · rw [if_neg he]
    exact ⟨_, _, rfl, Nat.zero_le _⟩
set_option maxHeartbeats 8000000 in
set_option maxRecDepth 100000 in
theorem rec_Frame.calls (x0 x1 x2 x3 x4 : Int) (k o n : ByteArray) (x8 : Int) (A9 : Option Addr) (c9 : Nat) (l9 : List S144) (A10 : Option Addr) (c10 : Nat) (l10 : List S36) (x11 x12 : Int) (r1 : ByteArray) (r2 : Int) (w : World) (hr9 : Kd.C k144 w A9 l9.length l9) (hc9 : l9.length ≤ c9) (hr10 : Kd.C k36 w A10 l10.length l10) (hc10 : l10.length ≤ c10) (h : frameF (cleanR x0 x1 x2 x3 x4 k o n x8 l9 l10 x11 x12) = some (r1, r2)) :
    Calls Tryz.prog 27 #[.agg #[.int .i64 x0, .int .i64 x1, .int .i64 x2, .int .i64 x3, .int .i64 x4, .string k, .string o, .string n, .int .i64 x8, .slice A9 l9.length c9, .slice A10 l10.length c10, .int .i64 x11, .int .i64 x12]] w fun e w' => e = .returned (.tuple #[.string r1, .int .i64 r2]) ∧ Below w.heap.size w w' := by
  have hu32 := Tryz.underlying32
  have HC := Aside0.mk (rec_Clean.calls x0 x1 x2 x3 x4 k o n x8 A9 c9 l9 A10 c10 l10 x11 x12 (w.alloc (.cells #[.int .i64 x0, .int .i64 x1, .int .i64 x2, .int .i64 x3, .int .i64 x4, .string k, .string o, .string n, .int .i64 x8, .slice A9 l9.length c9, .slice A10 l10.length c10, .int .i64 x11, .int .i64 x12] 32)) (Kd.C_alloc hr9 _) hc9 (Kd.C_alloc hr10 _) hc10)
  have HB := Aside0.mk (below_alloc (Below.refl w.heap.size w) (.cells #[.int .i64 x0, .int .i64 x1, .int .i64 x2, .int .i64 x3, .int .i64 x4, .string k, .string o, .string n, .int .i64 x8, .slice A9 l9.length c9, .slice A10 l10.length c10, .int .i64 x11, .int .i64 x12] 32))
  clear hr9 hc9 hr10 hc10
  generalize cleanR x0 x1 x2 x3 x4 k o n x8 l9 l10 x11 x12 = y at *
  obtain ⟨y0, y1, y2, y3, y4, y5, y6, y7, y8, y9, y10, y11, y12⟩ := y
  unfold frameF at h
  dsimp only at h
  replace h := Option.bind_eq_some_iff.mp h
  obtain ⟨⟨t, e⟩, A3, h⟩ := h
  have A3 := Aside0.mk A3; have H := Aside0.mk h; clear h
  go_enter Tryz.func27, Tryz.ntmps27
  go_wp2_with fail
  refine HC.out.mono ?_
  rintro e0 w1 ⟨v, rfl, ⟨B9, d9, B10, d10, rfl, g9, z9, g10, z10⟩, hb⟩
  have HB1 := Aside0.mk (below_step HB.out hb); have G9 := Aside0.mk (Kd.C_below g9 hb); have G10 := Aside0.mk (Kd.C_below g10 hb); have Z9 := Aside0.mk z9; have Z10 := Aside0.mk z10; clear hb g9 g10 z9 z10 HB HC
  go_wp2_with fail
  refine (rec_body.calls y0 y1 y2 y3 y4 y5 y6 y7 y8 B9 d9 y9 B10 d10 y10 y11 y12 t e w1 G9.out Z9.out G10.out Z10.out A3.out).mono ?_
  rintro e0 w2 ⟨rfl, hb⟩
  have HB2 := Aside0.mk (below_step HB1.out hb); clear hb HB1 G9 G10 Z9 Z10 A3
  by_cases he : e = 0
  · have h := H.out
    (try dsimp only at h)
    rw [if_pos he] at h
    have b0 : (e != 0) = false := bne_eq_false_iff_eq.mpr he
    clear he
    replace h := Option.bind_eq_some_iff.mp h
    obtain ⟨⟨p, ep⟩, A4, h⟩ := h
    replace h := Option.bind_eq_some_iff.mp h
    obtain ⟨q, A5, h⟩ := h
    (try dsimp only at h)
    by_cases hz : p.size + q.size ≤ 9223372036854775807
    · rw [if_pos hz] at h
      simp only [Option.some.injEq, Prod.mk.injEq] at h
      obtain ⟨rfl, rfl⟩ := h
      have A4 := Aside0.mk A4; have A5 := Aside0.mk A5; clear H
      go_wp2_with fail
      refine (pack_Put.calls 20 ⟨#[]⟩ (t.size : Int) 2 p ep w2 A4.out).mono ?_
      rintro e0 w3 ⟨rfl, hb⟩
      have HB3 := Aside0.mk (below_step HB2.out hb); clear hb HB2 A4
      go_wp2_with fail
      refine (sum_Seal.calls 20 t q w3 A5.out).mono ?_
      rintro e0 w4 ⟨rfl, hb⟩
      have HB4 := Aside0.mk (below_step HB3.out hb); clear hb HB3 A5
      go_wp2_with fail
      go_ret2
      exact ⟨rfl, HB4.out⟩
    · rw [if_neg hz] at h
      exact absurd h (by simp)
  · have h := H.out
    (try dsimp only at h)
    rw [if_neg he] at h
    have b0 : (e != 0) = true := bne_iff_ne.mpr he
    simp only [Option.some.injEq, Prod.mk.injEq] at h
    obtain ⟨rfl, rfl⟩ := h
    clear H he
    go_wp2_with fail
    go_ret2
    exact ⟨rfl, HB2.out⟩
end Go.Proofs.YteoebfiacnploaaGreat.HRec
namespace Go.Proofs.YteoebfiacnploaaGreat.HRec
open Go.RowKit Go.Proofs.YteoebfiacnploaaGreatW.PrintWords Go.Proofs.YteoebfiacnploaaGreatW.PrintLast Go.Proofs.YteoebfiacnploaaGreatW.PrintMore
set_option linter.unusedVariables false
set_option linter.unusedSimpArgs false
/-- What an Append makes of a log's bytes, out of the frame or its error; where; the error. -/
def appF (all s : ByteArray) (e : Int) : ByteArray × Int × Int := if e = 0 then addF all s else (all, 0, e)
theorem addF_size (all s : ByteArray) (h : all.size ≤ 11600) : (addF all s).1.size ≤ 11600 := by
  unfold addF
  by_cases hc : (s.size : Int) > 11600 - (all.size : Int)
  · rw [if_pos hc]; exact h
  · rw [if_neg hc]; show (all ++ s).size ≤ 11600; rw [ByteArray.size_append]; omega
theorem appF_size (all s : ByteArray) (e : Int) (h : all.size ≤ 11600) : (appF all s e).1.size ≤ 11600 := by
  unfold appF
  by_cases hc : e = 0
  · rw [if_pos hc]; exact addF_size all s h
  · rw [if_neg hc]; exact h
set_option maxHeartbeats 8000000 in
set_option maxRecDepth 100000 in
theorem log_Append (L d : Nat) (base run : Int) (all : ByteArray) (dur : Int) (x0 x1 x2 x3 x4 : Int) (k o n : ByteArray) (x8 : Int) (A9 : Option Addr) (c9 : Nat) (l9 : List S144) (A10 : Option Addr) (c10 : Nat) (l10 : List S36) (x11 x12 : Int) (s : ByteArray) (e : Int) (w0 w : World) (h : IsLog w L d base 200 run all dur) (hs : all.size ≤ 11600) (hB : Below w0.heap.size w0 w) (hL : w0.heap.size ≤ L) (hr9 : Kd.C k144 w A9 l9.length l9) (hc9 : l9.length ≤ c9) (hr10 : Kd.C k36 w A10 l10.length l10) (hc10 : l10.length ≤ c10) (hf : frameF (cleanR x0 x1 x2 x3 x4 k o n x8 l9 l10 x11 x12) = some (s, e)) :
    Calls Tryz.prog 15 #[.pointer (some ⟨L, 0, none⟩), .agg #[.int .i64 x0, .int .i64 x1, .int .i64 x2, .int .i64 x3, .int .i64 x4, .string k, .string o, .string n, .int .i64 x8, .slice A9 l9.length c9, .slice A10 l10.length c10, .int .i64 x11, .int .i64 x12]] w fun ex w' => ex = .returned (.tuple #[.int .i64 (appF all s e).2.1, .int .i64 (appF all s e).2.2]) ∧ IsLog w' L d base 200 run (appF all s e).1 dur ∧ Below w0.heap.size w0 w' := by
  have hu32 := Tryz.underlying32
  have HF := Aside0.mk (rec_Frame.calls x0 x1 x2 x3 x4 k o n x8 A9 c9 l9 A10 c10 l10 x11 x12 s e (w.alloc (.cells #[.int .i64 x0, .int .i64 x1, .int .i64 x2, .int .i64 x3, .int .i64 x4, .string k, .string o, .string n, .int .i64 x8, .slice A9 l9.length c9, .slice A10 l10.length c10, .int .i64 x11, .int .i64 x12] 32)) (Kd.C_alloc hr9 _) hc9 (Kd.C_alloc hr10 _) hc10 hf)
  have HL := Aside0.mk (IsLog.below h (below_alloc (Below.refl _ _) (.cells #[.int .i64 x0, .int .i64 x1, .int .i64 x2, .int .i64 x3, .int .i64 x4, .string k, .string o, .string n, .int .i64 x8, .slice A9 l9.length c9, .slice A10 l10.length c10, .int .i64 x11, .int .i64 x12] 32)))
  have HB := Aside0.mk (below_alloc hB (.cells #[.int .i64 x0, .int .i64 x1, .int .i64 x2, .int .i64 x3, .int .i64 x4, .string k, .string o, .string n, .int .i64 x8, .slice A9 l9.length c9, .slice A10 l10.length c10, .int .i64 x11, .int .i64 x12] 32))
  clear h hB hr9 hc9 hr10 hc10 hf; have HG := Aside0.mk hL; have HS := Aside0.mk hs; clear hL hs
  by_cases he : e = 0
  · have ea : appF all s e = addF all s := if_pos he
    rw [ea]
    have b0 : (e != 0) = false := bne_eq_false_iff_eq.mpr he
    clear he ea
    go_enter Tryz.func15, Tryz.ntmps15
    go_wp2_with fail
    refine (log_off L d base 200 run all dur _ HL.out).mono ?_
    rintro e0 w1 ⟨rfl, rfl⟩
    go_wp2_with fail
    refine HF.out.mono ?_
    rintro e0 w2 ⟨rfl, hb⟩
    have HL2 := Aside0.mk (IsLog.below HL.out hb); have HB2 := Aside0.mk (below_step HB.out hb); clear hb HB HL HF
    go_wp2_with fail
    refine (log_add L d base run all s dur w0 w2 HL2.out HS.out HB2.out HG.out).mono ?_
    rintro e0 w3 ⟨rfl, hl, hb, _⟩
    have HL3 := Aside0.mk hl; have HB3 := Aside0.mk hb; clear hl hb
    go_wp2_with fail
    go_ret2
    exact ⟨rfl, HL3.out, HB3.out⟩
  · have ea : appF all s e = (all, 0, e) := if_neg he
    rw [ea]
    have b0 : (e != 0) = true := bne_iff_ne.mpr he
    clear he ea
    go_enter Tryz.func15, Tryz.ntmps15
    go_wp2_with fail
    refine (log_off L d base 200 run all dur _ HL.out).mono ?_
    rintro e0 w1 ⟨rfl, rfl⟩
    go_wp2_with fail
    refine HF.out.mono ?_
    rintro e0 w2 ⟨rfl, hb⟩
    have HL2 := Aside0.mk (IsLog.below HL.out hb); have HB2 := Aside0.mk (below_step HB.out hb); clear hb HB HL HF
    go_wp2_with fail
    go_ret2
    exact ⟨rfl, HL2.out, HB2.out⟩
end Go.Proofs.YteoebfiacnploaaGreat.HRec
namespace Go.Proofs.YteoebfiacnploaaGreat.HRec
open Go.RowKit Go.Proofs.YteoebfiacnploaaGreatW.PrintWords Go.Proofs.YteoebfiacnploaaGreatW.PrintLast Go.Proofs.YteoebfiacnploaaGreatW.PrintMore
set_option linter.unusedVariables false
set_option linter.unusedSimpArgs false
theorem cleanR_len (x0 x1 x2 x3 x4 : Int) (k o n : ByteArray) (x8 : Int) (l9 : List S144) (l10 : List S36) (x11 x12 : Int) : (cleanR x0 x1 x2 x3 x4 k o n x8 l9 l10 x11 x12).2.2.2.2.2.2.2.2.2.1.length ≤ l9.length := by
  unfold cleanR
  split
  · exact Nat.le_refl _
  split
  · exact Nat.zero_le _
  split
  · exact Nat.zero_le _
  split
  · exact Nat.zero_le _
  split
  · exact Nat.zero_le _
  split
  · exact Nat.zero_le _
  · exact Nat.zero_le _
set_option maxHeartbeats 16000000 in
set_option maxRecDepth 100000 in
theorem law_Log (A1 : Option Addr) (c1 : Nat) (l : List RecT) (most : Int) (w : World) (hr : Kd.C kRec w A1 l.length l) :
    Calls Tryz.prog 6 #[.slice A1 l.length c1, .int .i64 most] w fun e w' => ∃ L d all, e = .returned (.pointer (some ⟨L, 0, none⟩)) ∧ IsLog w' L d 0 200 1 all 0 ∧ all.size ≤ 11600 ∧ w.heap.size ≤ L ∧ Below w.heap.size w w' := by
  have HR := Aside0.mk hr; have HLN := Aside0.mk hr.2.1; have HN := Aside0.mk (disk_New 200 w (by omega) (by omega)); have hu32 := Tryz.underlying32; clear hr
  go_enter Tryz.func6, Tryz.ntmps6
  go_wp2_with fail
  refine HN.out.mono ?_
  rintro e w1 ⟨d, m, A, c, rfl, hd, hm, hm0, hmd, hrow, hb⟩
  have HO := Aside0.mk (wal_Open d m A c w w1 hd hm hrow hmd hb hm0); clear hd hm hm0 hmd hrow hb HN
  go_wp2_with fail
  refine HO.out.mono ?_
  rintro e w2 ⟨L, rfl, hl, hl0, hb⟩
  have HL := Aside0.mk hl; have HB := Aside0.mk hb; have HL0 := Aside0.mk hl0; clear hl hb hl0 HO
  go_wp2_with fail
  go_loopg [9] (l.length) (fun kq v9 w' => ∃ (i : Int) (all : ByteArray), v9 = .int .i64 i ∧ Aside0 (0 ≤ i ∧ i.toNat + kq = l.length) ∧ Aside0 (IsLog w' L d 0 200 1 all 0) ∧ Aside0 (all.size ≤ 11600) ∧ Aside0 (Below w.heap.size w w'))
  case atStart => exact ⟨0, ⟨#[]⟩, rfl, ⟨by omega, by simp⟩, HL, ⟨by decide⟩, HB⟩
  case round =>
    clear HL HB
    obtain ⟨i, all, rfl, HN, HL, HS, HB⟩ := hrel
    cases gk with
    | zero =>
      have b0 : decide (i < (l.length : Int)) = false := decide_eq_false (by have := HN.out; omega)
      go_wp2_with fail
      go_ret
      exact ⟨L, d, all, rfl, HL.out, HS.out, HL0.out, HB.out⟩
    | succ k1 =>
      have hi : i < (l.length : Int) := by have := HN.out; omega
      have h0 : 0 ≤ i := HN.out.1
      have b0 : decide (i < (l.length : Int)) = true := decide_eq_true hi
      have hw : wrap64 (i + 1) = i + 1 := w64 (by omega) (by have := HLN.out; omega)
      have hnx : (i + 1).toNat = i.toNat + 1 := by omega
      by_cases hmo : i < most
      · have b1 : decide (i < most) = true := decide_eq_true hmo
        clear hmo
        obtain ⟨ad, A9, c9, A10, c10, rfl, z0, z1, z2, z3, z4, z5, z6, z7, z8, z9, z10, z11, z12, q9, y9, q10, y10⟩ := at_Rec (Kd.C_below HR.out HB.out) i h0 hi
        generalize rd_Rec l i = y at *
        obtain ⟨y0, y1, y2, y3, y4, y5, y6, y7, y8, l9, l10, y11, y12⟩ := y
        dsimp only at z0 z1 z2 z3 z4 z5 z6 z7 z8 z9 z10 z11 z12 q9 y9 q10 y10
        obtain ⟨s, ee, hf, _⟩ := frame_tot (cleanR y0 y1 y2 y3 y4 y5 y6 y7 y8 l9 l10 y11 y12) (Nat.le_trans (cleanR_len y0 y1 y2 y3 y4 y5 y6 y7 y8 l9 l10 y11 y12) q9.2.1)
        have HA := Aside0.mk (log_Append L d 0 1 all 0 y0 y1 y2 y3 y4 y5 y6 y7 y8 A9 c9 l9 A10 c10 l10 y11 y12 s ee w wr HL.out HS.out HB.out HL0.out q9 y9 q10 y10 hf); have HS2 := Aside0.mk (appF_size all s ee HS.out); clear q9 y9 q10 y10 hf
        go_wp2_with fail
        refine HA.out.mono ?_
        rintro e w3 ⟨rfl, hl, hb⟩
        have HL3 := Aside0.mk hl; have HB3 := Aside0.mk hb; clear hl hb HA z0 z1 z2 z3 z4 z5 z6 z7 z8 z9 z10 z11 z12
        go_wp2_with fail
        go_roundg k1
        case measure => omega
        case rel => exact ⟨i + 1, _, by first | rfl | rw [hw], ⟨by omega, by have := HN.out; omega⟩, HL3, HS2, HB3⟩
      · have b1 : decide (i < most) = false := decide_eq_false hmo
        clear hmo
        go_wp2_with fail
        go_ret
        exact ⟨L, d, all, rfl, HL.out, HS.out, HL0.out, HB.out⟩
end Go.Proofs.YteoebfiacnploaaGreat.HRec
