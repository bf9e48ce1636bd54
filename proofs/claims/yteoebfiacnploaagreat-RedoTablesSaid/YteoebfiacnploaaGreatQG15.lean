/- Texts of this proof, put together: WalB, WalD, PureLog. They prove no statement. -/
import Derived.Test.YteoebfiacnploaaGreatQG4
import Derived.Test.YteoebfiacnploaaGreatQG3
import Derived.Test.YteoebfiacnploaaGreatQHookRg
import Derived.Test.YteoebfiacnploaaGreatQHookRh0
import Derived.Test.YteoebfiacnploaaGreatQG10
import Derived.Test.YteoebfiacnploaaGreatQG2
import Derived.Test.YteoebfiacnploaaGreatQPureTot
import Derived.Deep.LoopGhost
import Derived.Test.YteoebfiacnploaaGreatQG14
import Derived.Test.YteoebfiacnploaaGreatQG11
namespace Go.Proofs.YteoebfiacnploaaGreat.HRec
open Go.RowKit Go.Proofs.YteoebfiacnploaaGreatW.PrintWords Go.Proofs.YteoebfiacnploaaGreatW.PrintLast Go.Proofs.YteoebfiacnploaaGreatW.PrintMore
set_option linter.unusedVariables false
set_option linter.unusedSimpArgs false
/-- The record at a place of a log whose bytes are these: the record's fields, the place behind it, the error. -/
def readF (k : Nat) (all : ByteArray) (lsn : Int) : Option (Int × Int × Int × Int × Int × ByteArray × ByteArray × ByteArray × Int × List S144 × List S36 × Int × Int × Int × Int) :=
  (rec_Open.f k all (lsn - 1)).bind fun r => if r.2.2.2.2.2.2.2.2.2.2.2.2.2.2 = 0 then some (r.1, r.2.1, r.2.2.1, r.2.2.2.1, r.2.2.2.2.1, r.2.2.2.2.2.1, r.2.2.2.2.2.2.1, r.2.2.2.2.2.2.2.1, r.2.2.2.2.2.2.2.2.1, r.2.2.2.2.2.2.2.2.2.1, r.2.2.2.2.2.2.2.2.2.2.1, r.2.2.2.2.2.2.2.2.2.2.2.1, r.2.2.2.2.2.2.2.2.2.2.2.2.1, wrap64 (lsn + r.2.2.2.2.2.2.2.2.2.2.2.2.2.1), 0)
    else some (0, 0, 0, 0, 0, ⟨#[]⟩, ⟨#[]⟩, ⟨#[]⟩, 0, [], [], 0, 0, 0, r.2.2.2.2.2.2.2.2.2.2.2.2.2.2)
set_option maxHeartbeats 8000000 in
set_option maxRecDepth 100000 in
theorem log_Read (k : Nat) (L d : Nat) (base sectors run : Int) (all : ByteArray) (dur lsn : Int) (r1 r2 r3 r4 r5 : Int) (r6 r7 r8 : ByteArray) (r9 : Int) (r10 : List S144) (r11 : List S36) (r12 r13 r14 r15 : Int) (w : World) (hL : IsLog w L d base sectors run all dur) (h1 : 1 ≤ lsn) (h2 : lsn ≤ all.size) (hs : all.size ≤ 1000000)
    (h : readF k all lsn = some (r1, r2, r3, r4, r5, r6, r7, r8, r9, r10, r11, r12, r13, r14, r15)) :
    Calls Tryz.prog 21 #[.pointer (some ⟨L, 0, none⟩), .int .i64 lsn] w fun e w' => ∃ v9_ v10_ : Value, e = .returned (.tuple #[.agg #[.int .i64 r1, .int .i64 r2, .int .i64 r3, .int .i64 r4, .int .i64 r5, .string r6, .string r7, .string r8, .int .i64 r9, v9_, v10_, .int .i64 r12, .int .i64 r13], .int .i64 r14, .int .i64 r15]) ∧ Kd.R k144 144 w' w.heap.size (fun _ => True) v9_ r10 ∧ Kd.R k36 36 w' w.heap.size (fun _ => True) v10_ r11 ∧ Below w.heap.size w w' := by
  have hu32 := Tryz.underlying32; have LL := Aside0.mk hL
  have b0 : decide (lsn < 1) = false := decide_eq_false (by omega)
  have b1 : decide ((all.size : Int) < lsn) = false := decide_eq_false (by omega)
  have hw : wrap64 (lsn - 1) = lsn - 1 := by unfold wrap64; omega
  unfold readF at h
  replace h := Option.bind_eq_some_iff.mp h
  obtain ⟨⟨y1, y2, y3, y4, y5, y6, y7, y8, y9, y10, y11, y12, y13, y14, y15⟩, ho, h⟩ := h
  have HO := Aside0.mk ho; have HH := Aside0.mk h; clear ho h hL
  have Z0 := Aside0.mk (show IsRec (w.alloc (.cells #[.int .i64 0, .int .i64 0, .int .i64 0, .int .i64 0, .int .i64 0, .string ⟨#[]⟩, .string ⟨#[]⟩, .string ⟨#[]⟩, .int .i64 0, .slice none 0 0, .slice none 0 0, .int .i64 0, .int .i64 0] 32)) w.heap.size 0 0 0 0 0 ⟨#[]⟩ ⟨#[]⟩ ⟨#[]⟩ 0 (.slice none 0 0) (.slice none 0 0) 0 0 from blk_new w _)
  have B0 := Aside0.mk (below_alloc (Below.refl w.heap.size w) (.cells #[.int .i64 0, .int .i64 0, .int .i64 0, .int .i64 0, .int .i64 0, .string ⟨#[]⟩, .string ⟨#[]⟩, .string ⟨#[]⟩, .int .i64 0, .slice none 0 0, .slice none 0 0, .int .i64 0, .int .i64 0] 32))
  go_enter Tryz.func21, Tryz.ntmps21
  go_wp2_with fail
  have L1 := Aside0.mk (IsLog.below LL.out (below_alloc (Below.refl _ _) (.cells #[.int .i64 0, .int .i64 0, .int .i64 0, .int .i64 0, .int .i64 0, .string ⟨#[]⟩, .string ⟨#[]⟩, .string ⟨#[]⟩, .int .i64 0, .slice none 0 0, .slice none 0 0, .int .i64 0, .int .i64 0] 32)))
  refine (log_none L d base sectors run all dur _ L1.out).mono ?_
  rintro e w1 ⟨rfl, rfl⟩
  have c4 := IsLog.at_4 L1.out
  go_wp2_with fail
  refine (rec_Open.calls k all (lsn - 1) y1 y2 y3 y4 y5 y6 y7 y8 y9 y10 y11 y12 y13 y14 y15 _ HO.out).mono ?_
  rintro e w2 ⟨v9, v10, rfl, q9, q10, q⟩
  obtain ⟨A9, c9, rfl⟩ := Kd.R_slice q9
  obtain ⟨A10, c10, rfl⟩ := Kd.R_slice q10
  have hsz : (w.alloc (.cells #[.int .i64 0, .int .i64 0, .int .i64 0, .int .i64 0, .int .i64 0, .string ⟨#[]⟩, .string ⟨#[]⟩, .string ⟨#[]⟩, .int .i64 0, (.slice none 0 0), (.slice none 0 0), .int .i64 0, .int .i64 0] 32)).heap.size = w.heap.size + 1 := by simp
  rw [hsz] at q9 q10
  have N2 := Aside0.mk (show Rows2 w2 (w.heap.size + 1) w2.heap.size (.slice A9 y10.length c9) y10 (.slice A10 y11.length c10) y11 from ⟨Kd.R_mono (Kd.R_bound q9) (fun k hz => ⟨hz.2.1, hz.2.2.1⟩), Kd.R_mono (Kd.R_bound q10) (fun k hz => ⟨hz.2.1, hz.2.2.1⟩), Nat.le_refl _⟩)
  have B3 := Aside0.mk (below_alloc (below_step B0.out q) (.cells #[.int .i64 y1, .int .i64 y2, .int .i64 y3, .int .i64 y4, .int .i64 y5, .string y6, .string y7, .string y8, .int .i64 y9, (.slice A9 y10.length c9), (.slice A10 y11.length c10), .int .i64 y12, .int .i64 y13] 32))
  have Z3 := Aside0.mk (IsRec.below (IsRec.below Z0.out q) (below_alloc (Below.refl _ _) (.cells #[.int .i64 y1, .int .i64 y2, .int .i64 y3, .int .i64 y4, .int .i64 y5, .string y6, .string y7, .string y8, .int .i64 y9, (.slice A9 y10.length c9), (.slice A10 y11.length c10), .int .i64 y12, .int .i64 y13] 32)))
  have N3 := Aside0.mk (Rows2.below N2.out (below_alloc (Below.refl _ _) (.cells #[.int .i64 y1, .int .i64 y2, .int .i64 y3, .int .i64 y4, .int .i64 y5, .string y6, .string y7, .string y8, .int .i64 y9, (.slice A9 y10.length c9), (.slice A10 y11.length c10), .int .i64 y12, .int .i64 y13] 32)))
  have O3 := Aside0.mk (show IsRec (w2.alloc (.cells #[.int .i64 y1, .int .i64 y2, .int .i64 y3, .int .i64 y4, .int .i64 y5, .string y6, .string y7, .string y8, .int .i64 y9, (.slice A9 y10.length c9), (.slice A10 y11.length c10), .int .i64 y12, .int .i64 y13] 32)) w2.heap.size y1 y2 y3 y4 y5 y6 y7 y8 y9 (.slice A9 y10.length c9) (.slice A10 y11.length c10) y12 y13 from blk_new w2 _)
  clear q9 q10 q hsz Z0 B0 L1 c4; have hh := HH.out
  by_cases he : y15 = 0
  · subst he
    rw [if_pos rfl] at hh
    simp only [Option.some.injEq, Prod.mk.injEq] at hh
    obtain ⟨rfl, rfl, rfl, rfl, rfl, rfl, rfl, rfl, rfl, rfl, rfl, rfl, rfl, rfl, rfl⟩ := hh
    obtain ⟨zZ3_0, zZ3_1, zZ3_2, zZ3_3, zZ3_4, zZ3_5, zZ3_6, zZ3_7, zZ3_8, zZ3_9, zZ3_10, zZ3_11, zZ3_12⟩ := IsRec.ats Z3.out; obtain ⟨yZ3_0, yZ3_1, yZ3_2, yZ3_3, yZ3_4, yZ3_5, yZ3_6, yZ3_7, yZ3_8, yZ3_9, yZ3_10, yZ3_11, yZ3_12⟩ := IsRec.frees Z3.out; obtain ⟨zO3_0, zO3_1, zO3_2, zO3_3, zO3_4, zO3_5, zO3_6, zO3_7, zO3_8, zO3_9, zO3_10, zO3_11, zO3_12⟩ := IsRec.ats O3.out; obtain ⟨yO3_0, yO3_1, yO3_2, yO3_3, yO3_4, yO3_5, yO3_6, yO3_7, yO3_8, yO3_9, yO3_10, yO3_11, yO3_12⟩ := IsRec.frees O3.out
    go_wp2_with fail
    have ZZ := (IsRec.sets13 Z3.out y1 y2 y3 y4 y5 y6 y7 y8 y9 (.slice A9 y10.length c9) (.slice A10 y11.length c10) y12 y13)
    have QQ := Rows2.done (b := w.heap.size) (Rows2.sets13 N3.out (show w.heap.size < w.heap.size + 1 by omega) (.int .i64 y1) (.int .i64 y2) (.int .i64 y3) (.int .i64 y4) (.int .i64 y5) (.string y6) (.string y7) (.string y8) (.int .i64 y9) (.slice A9 y10.length c9) (.slice A10 y11.length c10) (.int .i64 y12) (.int .i64 y13)) (show w.heap.size ≤ w.heap.size + 1 by omega)
    (try simp only [Exit.inBlock, Exit.then])
    refine bodyPost_ret (results_ctt rfl _ _ w.heap.size 32 #[.int .i64 y1, .int .i64 y2, .int .i64 y3, .int .i64 y4, .int .i64 y5, .string y6, .string y7, .string y8, .int .i64 y9, (.slice A9 y10.length c9), (.slice A10 y11.length c10), .int .i64 y12, .int .i64 y13] (0, 0) _ rfl ZZ hu32 rfl (by kernel_rfl)) rfl ?_
    exact ⟨_, _, rfl, QQ.1, QQ.2, (below13 B3.out (Nat.le_refl _))⟩
  · rw [if_neg he] at hh
    simp only [Option.some.injEq, Prod.mk.injEq] at hh
    obtain ⟨rfl, rfl, rfl, rfl, rfl, rfl, rfl, rfl, rfl, rfl, rfl, rfl, rfl, rfl, rfl⟩ := hh
    have u0 : (y15 == 0) = false := beq_eq_false_iff_ne.mpr he
    have u1 : (y15 != 0) = true := bne_iff_ne.mpr he
    obtain ⟨zZ3_0, zZ3_1, zZ3_2, zZ3_3, zZ3_4, zZ3_5, zZ3_6, zZ3_7, zZ3_8, zZ3_9, zZ3_10, zZ3_11, zZ3_12⟩ := IsRec.ats Z3.out; obtain ⟨yZ3_0, yZ3_1, yZ3_2, yZ3_3, yZ3_4, yZ3_5, yZ3_6, yZ3_7, yZ3_8, yZ3_9, yZ3_10, yZ3_11, yZ3_12⟩ := IsRec.frees Z3.out
    go_wp2_with fail
    have ZZ := (IsRec.sets13 Z3.out 0 0 0 0 0 ⟨#[]⟩ ⟨#[]⟩ ⟨#[]⟩ 0 (.slice none 0 0) (.slice none 0 0) 0 0)
    (try simp only [Exit.inBlock, Exit.then])
    refine bodyPost_ret (results_ctt rfl _ _ w.heap.size 32 #[.int .i64 0, .int .i64 0, .int .i64 0, .int .i64 0, .int .i64 0, .string ⟨#[]⟩, .string ⟨#[]⟩, .string ⟨#[]⟩, .int .i64 0, (.slice none 0 0), (.slice none 0 0), .int .i64 0, .int .i64 0] (0, 0) _ rfl ZZ hu32 rfl (by kernel_rfl)) rfl ?_
    exact ⟨_, _, rfl, Kd.R_nil _ _ _ _ _, Kd.R_nil _ _ _ _ _, (below13 B3.out (Nat.le_refl _))⟩
end Go.Proofs.YteoebfiacnploaaGreat.HRec
namespace Go.Proofs.YteoebfiacnploaaGreat.HRec
open Go.RowKit Go.Proofs.YteoebfiacnploaaGreatW.PrintWords Go.Proofs.YteoebfiacnploaaGreatW.PrintLast Go.Proofs.YteoebfiacnploaaGreatW.PrintMore
set_option linter.unusedVariables false
set_option linter.unusedSimpArgs false
/-- The records of a log's bytes from a place on, behind some, and where they begin. -/
def recsL : Nat → ByteArray → List RecT → List Int → Int → Option (List RecT × List Int)
  | 0, _, _, _, _ => none
  | k + 1, all, rs, ps, lsn => if lsn ≤ (all.size : Int) then (readF 5 all lsn).bind fun r => if r.2.2.2.2.2.2.2.2.2.2.2.2.2.2 = 0 then recsL k all (rs ++ [(r.1, r.2.1, r.2.2.1, r.2.2.2.1, r.2.2.2.2.1, r.2.2.2.2.2.1, r.2.2.2.2.2.2.1, r.2.2.2.2.2.2.2.1, r.2.2.2.2.2.2.2.2.1, r.2.2.2.2.2.2.2.2.2.1, r.2.2.2.2.2.2.2.2.2.2.1, r.2.2.2.2.2.2.2.2.2.2.2.1, r.2.2.2.2.2.2.2.2.2.2.2.2.1)]) (ps ++ [lsn]) r.2.2.2.2.2.2.2.2.2.2.2.2.2.1 else some (rs, ps) else some (rs, ps)
theorem read_tot (all : ByteArray) (lsn : Int) (hs : all.size ≤ 11600) (h1 : 1 ≤ lsn) : ∃ r, readF 5 all lsn = some r ∧ (r.2.2.2.2.2.2.2.2.2.2.2.2.2.2 = 0 → lsn + 7 ≤ r.2.2.2.2.2.2.2.2.2.2.2.2.2.1 ∧ r.2.2.2.2.2.2.2.2.2.2.2.2.2.1 ≤ all.size + 1) := by
  obtain ⟨y, hy, hb⟩ := Open_tot all (lsn - 1) (by omega)
  unfold readF
  rw [hy, Option.bind_some]
  by_cases he : y.2.2.2.2.2.2.2.2.2.2.2.2.2.2 = 0
  · have hb := hb he
    rw [if_pos he, w64 (n := lsn + _) (by omega) (by omega)]
    exact ⟨_, rfl, fun _ => ⟨by dsimp only; omega, by dsimp only; omega⟩⟩
  · rw [if_neg he]
    exact ⟨_, rfl, fun h => absurd h he⟩
theorem recsL_tot (all : ByteArray) (hs : all.size ≤ 11600) : ∀ (n k : Nat) (rs : List RecT) (ps : List Int) (lsn : Int), 1 ≤ lsn → (all.size + 1 - lsn).toNat ≤ n → n + 1 ≤ k → ∃ a b, recsL k all rs ps lsn = some (a, b)
  | n, 0, _, _, _, _, _, hk => absurd hk (by omega)
  | n, k + 1, rs, ps, lsn, h1, hn, hk => by
    unfold recsL
    by_cases hc : lsn ≤ (all.size : Int)
    · obtain ⟨r, hr, hb⟩ := read_tot all lsn hs h1
      rw [if_pos hc, hr, Option.bind_some]
      by_cases he : r.2.2.2.2.2.2.2.2.2.2.2.2.2.2 = 0
      · have hb := hb he
        obtain ⟨n, rfl⟩ : ∃ m, n = m + 1 := ⟨n - 1, by omega⟩
        rw [if_pos he]
        exact recsL_tot all hs n k _ _ _ (by omega) (by omega) (by omega)
      · rw [if_neg he]
        exact ⟨_, _, rfl⟩
    · rw [if_neg hc]
      exact ⟨_, _, rfl⟩
/-- All records of a log's bytes, and where they begin. -/
def recsF (all : ByteArray) : List RecT × List Int := (recsL 11700 all [] [] 1).getD ([], [])
theorem recsF_eq (all : ByteArray) (hs : all.size ≤ 11600) : recsL 11700 all [] [] 1 = some ((recsF all).1, (recsF all).2) := by
  obtain ⟨a, b, h⟩ := recsL_tot all hs 11600 11700 [] [] 1 (by omega) (by omega) (by omega)
  unfold recsF
  rw [h]
  rfl
set_option maxHeartbeats 16000000 in
set_option maxRecDepth 100000 in
theorem log_Records_k (k : Nat) (L d : Nat) (base sectors run : Int) (all : ByteArray) (dur : Int) (R : List RecT) (S : List Int) (w : World) (hL : IsLog w L d base sectors run all dur) (hs : all.size ≤ 11600) (h : recsL k all [] [] 1 = some (R, S)) :
    Calls Tryz.prog 7 #[.pointer (some ⟨L, 0, none⟩)] w fun e w' => ∃ v1 v2 : Value, e = .returned (.tuple #[v1, v2]) ∧ Kd.R kRec 32 w' w.heap.size (fun _ => True) v1 R ∧ Kd.R (Kd.int .i64) 3 w' w.heap.size (fun _ => True) v2 S ∧ Below w.heap.size w w' := by
  have hu32 := Tryz.underlying32; have LL := Aside0.mk hL; have HS := Aside0.mk hs; have HH := Aside0.mk h; have HB := Aside0.mk (Below.refl w.heap.size w); clear hL hs h
  go_enter Tryz.func7, Tryz.ntmps7
  go_wp2_with fail
  refine (log_none L d base sectors run all dur w LL.out).mono ?_
  rintro e w1 ⟨rfl, hw⟩
  rw [hw]
  clear hw w1
  go_wp2_with fail
  go_loopg [4, 5, 6] k (fun kq v4 v5 v6 w' => ∃ (rs : List RecT) (ps : List Int) (lsn : Int), v6 = .int .i64 lsn ∧ Aside0 (recsL kq all rs ps lsn = some (R, S)) ∧ Aside0 (kq ≤ k) ∧ Aside0 (1 ≤ lsn ∧ (rs.length : Int) < lsn ∧ (ps.length : Int) < lsn) ∧ Aside0 (Kd.R kRec 32 w' w.heap.size (fun _ => True) v4 rs) ∧ Aside0 (Kd.R (Kd.int .i64) 3 w' w.heap.size (fun _ => True) v5 ps) ∧ Aside0 (Below w.heap.size w w'))
  case atStart => exact ⟨[], [], 1, rfl, HH, ⟨Nat.le_refl _⟩, ⟨by decide, by decide, by decide⟩, ⟨Kd.R_nil _ _ _ _ _⟩, ⟨Kd.R_nil _ _ _ _ _⟩, HB⟩
  case round =>
    clear HH HB
    obtain ⟨rs, ps, lsn, rfl, HA, HK1, HN, HO4, HO5, HB⟩ := hrel
    have hLr := Aside0.mk (IsLog.below LL.out HB.out)
    cases gk with
    | zero => exact absurd HA.out (by simp [recsL])
    | succ k1 =>
      have H := HA.out; clear HA
      simp only [recsL] at H
      have c4r := IsLog.at_4 hLr.out
      by_cases c1 : lsn ≤ (all.size : Int)
      · rw [if_pos c1] at H
        have c1b : decide (lsn ≤ (all.size : Int)) = true := decide_eq_true c1
        have C1 := Aside0.mk c1; clear c1
        replace H := Option.bind_eq_some_iff.mp H
        obtain ⟨⟨y1, y2, y3, y4, y5, y6, y7, y8, y9, y10, y11, y12, y13, y14, y15⟩, A5, H⟩ := H
        dsimp only at H
        have A6 : y15 = 0 → lsn + 7 ≤ y14 := by
          intro h0
          obtain ⟨r, hr, hb⟩ := read_tot all lsn HS.out HN.out.1
          rw [hr] at A5
          injection A5 with A5
          subst A5
          exact (hb h0).1
        have A5 := Aside0.mk A5
        go_wp2_with fail
        refine (log_Read 5 L d base sectors run all dur lsn y1 y2 y3 y4 y5 y6 y7 y8 y9 y10 y11 y12 y13 y14 y15 wr hLr.out HN.out.1 C1.out (by have := HS.out; omega) A5.out).mono ?_
        rintro e w1 ⟨v9, v10, rfl, q9, q10, hb⟩
        have HP9 := Aside0.mk (Kd.R_lower (Kd.R_mono (Kd.R_bound q9) (fun k h => h.2.1)) HB.out.size)
        have HP10 := Aside0.mk (Kd.R_lower (Kd.R_mono (Kd.R_bound q10) (fun k h => h.2.1)) HB.out.size)
        obtain ⟨A9, c9, rfl⟩ := Kd.R_slice q9
        obtain ⟨A10, c10, rfl⟩ := Kd.R_slice q10
        have HN4 : Aside0 (∀ k, u4.ownBlock = some k → k < wr.heap.size) := ⟨fun k hk => ((Kd.R_bound HO4.out).1 k hk).2.2.1⟩
        have HO4b := Aside0.mk (Kd.R_below HO4.out hb); have HO5b := Aside0.mk (Kd.R_below HO5.out hb); have HBb := Aside0.mk (below_step HB.out hb); clear q9 q10 hb HO4 HO5 HB A5 c1b c4r hLr
        by_cases he : y15 = 0
        · rw [if_pos he] at H
          have A6 := A6 he
          have b0 : (y15 != 0) = false := bne_eq_false_iff_eq.mpr he
          clear he
          have H' := Aside0.mk H
          clear H
          have HN5 : Aside0 (∀ k, (fun k => wr.heap.size ≤ k) k → ((fun _ => True : Nat → Prop) k) ∧ some k ≠ u4.ownBlock) := ⟨fun k hk => ⟨trivial, fun he => absurd (HN4.out k he.symm) (Nat.not_lt.mpr hk)⟩⟩
          go_wp2_with (first | ((with_reducible refine gate_builtin (b := .append) (xs := #[.tmp 28, .tmp 30]) rfl ?_); at_builtin; refine Kd.R_append (w0 := w) kRec w.heap.size ?ag (.tmp 28) (.tmp 30) 22 32 (.agg #[.int .i64 0, .int .i64 0, .int .i64 0, .int .i64 0, .int .i64 0, .string ⟨#[]⟩, .string ⟨#[]⟩, .string ⟨#[]⟩, .int .i64 0, .slice none 0 0, .slice none 0 0, .int .i64 0, .int .i64 0]) 160 ?ao ?aT ?ai ?az ?a0 ?a1 u4 rs (y1, y2, y3, y4, y5, y6, y7, y8, y9, y10, y11, y12, y13) [.int .i64 y1, .int .i64 y2, .int .i64 y3, .int .i64 y4, .int .i64 y5, .string y6, .string y7, .string y8, .int .i64 y9, .slice A9 y10.length c9, .slice A10 y11.length c10, .int .i64 y12, .int .i64 y13] (fun _ => True) (fun k => wr.heap.size ≤ k) ?hs ?hx ?aP HN5.out ?aF ?aO ?aB ?aS ?aL ?_; (case ag => rfl); (case ao => rfl); (case aT => exact Tryz.underlying22); (case ai => exact info32); (case az => rfl); (case a0 => decide); (case a1 => omega); (case hs => rfl); (case hx => (show (Value.slice (some ⟨w1.heap.size + 1, 0, none⟩) 1 1) = _; simp)); (case aP => exact kRec_mkM (Kd.R_alloc HP9.out _) (Kd.R_alloc HP10.out _)); (case aF => exact (fun _ _ => trivial)); (case aO => exact Kd.R_alloc HO4b.out _); (case aB => exact below_alloc HBb.out _); (case aS => exact (below_alloc HBb.out _).size); (case aL => have := HN.out; have := HS.out; have := C1.out; omega); intro v4_ w2 ho hb hg hat; have n0_ := Aside0.mk ho; have n1_ := Aside0.mk (R_apart (Kd.R_alloc HO4b.out _) (Kd.R_alloc HO5b.out _) hg (by decide)); have n2_ := Aside0.mk hb; clear ho hb hg hat HO4b HO5b HBb HP9 HP10 HN4 HN5) | ((with_reducible refine gate_builtin (b := .append) (xs := #[.tmp 32, .tmp 34]) rfl ?_); at_builtin; refine Kd.R_append (w0 := w) (Kd.int .i64) w.heap.size rfl (.tmp 32) (.tmp 34) 25 3 (.int .i64 0) 8 rfl Tryz.underlying25 info3 rfl (by decide) (by omega) u5 ps lsn [.int .i64 lsn] (fun _ => True) (fun _ => False) rfl rfl ?aP (fun _ hk => hk.elim) ?aF ?aO ?aB ?aS ?aL ?_; (case aP => rfl); (case aF => exact (fun _ _ => trivial)); (case aO => exact n1_.out); (case aB => exact n2_.out); (case aS => exact n2_.out.size); (case aL => have := HN.out; have := HS.out; have := C1.out; omega); intro v5_ w3 ho hb hg hat; have m0_ := Aside0.mk (R_apart n1_.out n0_.out hg (by decide)); have m1_ := Aside0.mk ho; have m2_ := Aside0.mk hb; clear ho hb hg hat n0_ n1_ n2_))
          go_roundg k1
          case measure => have := HK1.out; omega
          case rel => exact ⟨_, _, y14, rfl, H', ⟨by have := HK1.out; omega⟩, ⟨by have := HN.out; omega, by have := HN.out; rw [List.length_append]; simp only [List.length_cons, List.length_nil]; omega, by have := HN.out; rw [List.length_append]; simp only [List.length_cons, List.length_nil]; omega⟩, m0_, m1_, m2_⟩
        · rw [if_neg he] at H
          have b0 : (y15 != 0) = true := bne_iff_ne.mpr he
          simp only [Option.some.injEq, Prod.mk.injEq] at H
          obtain ⟨rfl, rfl⟩ := H
          go_wp2_with fail
          go_ret2
          exact ⟨_, _, rfl, Kd.R_alloc HO4b.out _, Kd.R_alloc HO5b.out _, below_alloc HBb.out _⟩
      · rw [if_neg c1] at H
        have c1b : decide (lsn ≤ (all.size : Int)) = false := decide_eq_false c1
        simp only [Option.some.injEq, Prod.mk.injEq] at H
        obtain ⟨rfl, rfl⟩ := H
        go_wp2_with fail
        go_ret2
        exact ⟨_, _, rfl, HO4.out, HO5.out, HB.out⟩
theorem log_Records (L d : Nat) (base sectors run : Int) (all : ByteArray) (dur : Int) (w : World) (hL : IsLog w L d base sectors run all dur) (hs : all.size ≤ 11600) :
    Calls Tryz.prog 7 #[.pointer (some ⟨L, 0, none⟩)] w fun e w' => ∃ v1 v2 : Value, e = .returned (.tuple #[v1, v2]) ∧ Kd.R kRec 32 w' w.heap.size (fun _ => True) v1 (recsF all).1 ∧ Kd.R (Kd.int .i64) 3 w' w.heap.size (fun _ => True) v2 (recsF all).2 ∧ Below w.heap.size w w' := log_Records_k 11700 L d base sectors run all dur _ _ w hL hs (recsF_eq all hs)
end Go.Proofs.YteoebfiacnploaaGreat.HRec
namespace Go.Proofs.YteoebfiacnploaaGreat.HRec
open Go.RowKit Go.Proofs.YteoebfiacnploaaGreatW.PrintWords Go.Proofs.YteoebfiacnploaaGreatW.PrintLast Go.Proofs.YteoebfiacnploaaGreatW.PrintMore
set_option linter.unusedVariables false
set_option linter.unusedSimpArgs false
/-- A frame and the clean record that it is of. -/
def FrameOk (f : RecT × ByteArray) : Prop := (∃ x0 x1 x2 x3 x4 k o n x8 l9 l10 x11 x12, f.1 = cleanR x0 x1 x2 x3 x4 k o n x8 l9 l10 x11 x12) ∧ f.1.2.2.2.2.2.2.2.2.2.1.length ≤ 9223372036854775807 ∧ frameF f.1 = some (f.2, 0)
def catB : List (RecT × ByteArray) → ByteArray
  | [] => ⟨#[]⟩
  | f :: r => f.2 ++ catB r
theorem catB_app : ∀ (a b : List (RecT × ByteArray)), catB (a ++ b) = catB a ++ catB b
  | [], b => (nil_app _).symm
  | f :: a, b => by
    show f.2 ++ catB (a ++ b) = (f.2 ++ catB a) ++ catB b
    rw [catB_app a b, ByteArray.append_assoc]
/-- A log's bytes are whole frames. -/
def GoodLog (all : ByteArray) : Prop := ∃ fs : List (RecT × ByteArray), (∀ f ∈ fs, FrameOk f) ∧ all = catB fs
theorem GoodLog.nil : GoodLog ⟨#[]⟩ := ⟨[], fun f hf => absurd hf (List.not_mem_nil), rfl⟩
theorem GoodLog.app {all : ByteArray} (h : GoodLog all) (y : RecT) (s : ByteArray) (hf : FrameOk (y, s)) : GoodLog (all ++ s) := by
  obtain ⟨fs, h1, rfl⟩ := h
  refine ⟨fs ++ [(y, s)], fun f hm => ?_, ?_⟩
  · rcases List.mem_append.mp hm with hm | hm
    · exact h1 f hm
    · rw [List.mem_singleton.mp hm]; exact hf
  · rw [catB_app]
    show catB fs ++ s = catB fs ++ (s ++ ⟨#[]⟩)
    rw [app_nil]
/-- What Append makes of a log of whole frames is one. -/
theorem GoodLog.appF {all : ByteArray} (h : GoodLog all) (x0 x1 x2 x3 x4 : Int) (k o n : ByteArray) (x8 : Int) (l9 : List S144) (l10 : List S36) (x11 x12 : Int) (h9 : l9.length ≤ 9223372036854775807) (hc : (cleanR x0 x1 x2 x3 x4 k o n x8 l9 l10 x11 x12).2.2.2.2.2.2.2.2.2.1.length ≤ l9.length) (s : ByteArray) (e : Int) (hf : frameF (cleanR x0 x1 x2 x3 x4 k o n x8 l9 l10 x11 x12) = some (s, e)) : GoodLog (HRec.appF all s e).1 := by
  unfold HRec.appF
  by_cases he : e = 0
  · subst he
    rw [if_pos rfl]
    unfold addF
    by_cases hz : (s.size : Int) > 11600 - (all.size : Int)
    · rw [if_pos hz]; exact h
    · rw [if_neg hz]
      exact h.app _ s ⟨⟨x0, x1, x2, x3, x4, k, o, n, x8, l9, l10, x11, x12, rfl⟩, Nat.le_trans hc h9, hf⟩
  · rw [if_neg he]; exact h
/-- From a place on a log is read to its end. -/
inductive Ends (all : ByteArray) : Int → Prop
  | done : Ends all ((all.size : Int) + 1)
  | step {lsn next : Int} {r : Int × Int × Int × Int × Int × ByteArray × ByteArray × ByteArray × Int × List S144 × List S36 × Int × Int × Int × Int} : 1 ≤ lsn → lsn ≤ (all.size : Int) → readF 5 all lsn = some r → r.2.2.2.2.2.2.2.2.2.2.2.2.2.2 = 0 → r.2.2.2.2.2.2.2.2.2.2.2.2.2.1 = next → Ends all next → Ends all lsn
theorem frames_end : ∀ (fs : List (RecT × ByteArray)) (pre : ByteArray), (∀ f ∈ fs, FrameOk f) → (pre ++ catB fs).size ≤ 11600 → Ends (pre ++ catB fs) ((pre.size : Int) + 1)
  | [], pre, _, _ => by
    have : pre ++ catB [] = pre := app_nil pre
    rw [this]
    exact Ends.done
  | (y, s) :: r, pre, hf, hs => by
    obtain ⟨⟨x0, x1, x2, x3, x4, k, o, n, x8, l9, l10, x11, x12, hy⟩, h9, hfr⟩ := hf (y, s) List.mem_cons_self
    have hA : At (pre ++ (s ++ catB r)) pre.size s := (At_app (At_end pre (s ++ catB r))).1
    have hs' : (pre ++ (s ++ catB r)).size ≤ 11600 := hs
    obtain ⟨ho, h7⟩ := frame_read x0 x1 x2 x3 x4 k o n x8 l9 l10 x11 x12 y hy h9 s hfr (pre ++ (s ++ catB r)) pre.size (by omega) hA
    have hA1 := hA.1
    have ih := frames_end r (pre ++ s) (fun f hm => hf f (List.mem_cons_of_mem _ hm)) (by rw [ByteArray.append_assoc]; exact hs')
    rw [ByteArray.append_assoc, ByteArray.size_append] at ih
    show Ends (pre ++ (s ++ catB r)) ((pre.size : Int) + 1)
    refine Ends.step (r := (y.1, y.2.1, y.2.2.1, y.2.2.2.1, y.2.2.2.2.1, y.2.2.2.2.2.1, y.2.2.2.2.2.2.1, y.2.2.2.2.2.2.2.1, y.2.2.2.2.2.2.2.2.1, y.2.2.2.2.2.2.2.2.2.1, y.2.2.2.2.2.2.2.2.2.2.1, y.2.2.2.2.2.2.2.2.2.2.2.1, y.2.2.2.2.2.2.2.2.2.2.2.2, ((pre.size + s.size : Nat) : Int) + 1, 0)) (by omega) (by omega) ?_ rfl rfl ih
    unfold readF
    rw [show (pre.size : Int) + 1 - 1 = (pre.size : Int) by omega, ho, Option.bind_some]
    dsimp only
    rw [if_pos rfl, w64 (by omega) (by omega)]
    have : (pre.size : Int) + 1 + (s.size : Int) = ((pre.size + s.size : Nat) : Int) + 1 := by omega
    rw [this]
theorem GoodLog.ends {all : ByteArray} (h : GoodLog all) (hs : all.size ≤ 11600) : Ends all 1 := by
  obtain ⟨fs, h1, rfl⟩ := h
  have := frames_end fs ⟨#[]⟩ h1 (by rw [nil_app]; exact hs)
  rw [nil_app] at this
  exact this
end Go.Proofs.YteoebfiacnploaaGreat.HRec
