/- Texts of this proof, put together: WalB, WalD, PureLog, TopC. They prove no statement. -/
import Derived.Test.YteoebfiacnploaaGreatQG4
import Derived.Test.YteoebfiacnploaaGreatQG3
import Derived.Test.YteoebfiacnploaaGreatQHookRg
import Derived.Test.YteoebfiacnploaaGreatQHookRh0
import Derived.Test.YteoebfiacnploaaGreatQG10
import Derived.Test.YteoebfiacnploaaGreatQG2
import Derived.Test.YteoebfiacnploaaGreatQPureTot
import Derived.Deep.LoopGhost
import Derived.Test.YteoebfiacnploaaGreatQG14
import Derived.Test.YteoebfiacnploaaGreatQG11
namespace Go.Proofs.YteoebfiacnploaaGreat.HRec
open Go.RowKit Go.Proofs.YteoebfiacnploaaGreatW.PrintWords Go.Proofs.YteoebfiacnploaaGreatW.PrintLast Go.Proofs.YteoebfiacnploaaGreatW.PrintMore
set_option linter.unusedVariables false
set_option linter.unusedSimpArgs false
/-- The record at a place of a log whose bytes are these: the record's fields, the place behind it, the error. -/
def readF (k : Nat) (all : ByteArray) (lsn : Int) : Option (Int × Int × Int × Int × Int × ByteArray × ByteArray × ByteArray × Int × List S144 × List S36 × Int × Int × Int × Int) :=
  (rec_Open.f k all (lsn - 1)).bind fun r => if r.2.2.2.2.2.2.2.2.2.2.2.2.2.2 = 0 then some (r.1, r.2.1, r.2.2.1, r.2.2.2.1, r.2.2.2.2.1, r.2.2.2.2.2.1, r.2.2.2.2.2.2.1, r.2.2.2.2.2.2.2.1, r.2.2.2.2.2.2.2.2.1, r.2.2.2.2.2.2.2.2.2.1, r.2.2.2.2.2.2.2.2.2.2.1, r.2.2.2.2.2.2.2.2.2.2.2.1, r.2.2.2.2.2.2.2.2.2.2.2.2.1, wrap64 (lsn + r.2.2.2.2.2.2.2.2.2.2.2.2.2.1), 0)
    else some (0, 0, 0, 0, 0, ⟨#[]⟩, ⟨#[]⟩, ⟨#[]⟩, 0, [], [], 0, 0, 0, r.2.2.2.2.2.2.2.2.2.2.2.2.2.2)
set_option maxHeartbeats 8000000 in
set_option maxRecDepth 100000 in
theorem log_Read (k : Nat) (L d : Nat) (base sectors run : Int) (all : ByteArray) (dur lsn : Int) (r1 r2 r3 r4 r5 : Int) (r6 r7 r8 : ByteArray) (r9 : Int) (r10 : List S144) (r11 : List S36) (r12 r13 r14 r15 : Int) (w : World) (hL : IsLog w L d base sectors run all dur) (h1 : 1 ≤ lsn) (h2 : lsn ≤ all.size) (hs : all.size ≤ 1000000)
    (h : readF k all lsn = some (r1, r2, r3, r4, r5, r6, r7, r8, r9, r10, r11, r12, r13, r14, r15)) :
    Calls Tryz.prog 21 #[.pointer (some ⟨L, 0, none⟩), .int .i64 lsn] w fun e w' => ∃ v9_ v10_ : Value, e = .returned (.tuple #[.agg #[.int .i64 r1, .int .i64 r2, .int .i64 r3, .int .i64 r4, .int .i64 r5, .string r6, .string r7, .string r8, .int .i64 r9, v9_, v10_, .int .i64 r12, .int .i64 r13], .int .i64 r14, .int .i64 r15]) ∧ Kd.R k144 144 w' w.heap.size (fun _ => True) v9_ r10 ∧ Kd.R k36 36 w' w.heap.size (fun _ => True) v10_ r11 ∧ Below w.heap.size w w' := by
  have hu32 := Tryz.underlying32; have LL := Aside0.mk hL
  have b0 : decide (lsn < 1) = false := decide_eq_false (by omega)
  have b1 : decide ((all.size : Int) < lsn) = false := decide_eq_false (by omega)
  have hw : wrap64 (lsn - 1) = lsn - 1 := by unfold wrap64; omega
  unfold readF at h
  replace h := Option.bind_eq_some_iff.mp h
  obtain ⟨⟨y1, y2, y3, y4, y5, y6, y7, y8, y9, y10, y11, y12, y13, y14, y15⟩, ho, h⟩ := h
  have HO := Aside0.mk ho; have HH := Aside0.mk h; clear ho h hL
  have Z0 := Aside0.mk (show IsRec (w.alloc (.cells #[.int .i64 0, .int .i64 0, .int .i64 0, .int .i64 0, .int .i64 0, .string ⟨#[]⟩, .string ⟨#[]⟩, .string ⟨#[]⟩, .int .i64 0, .slice none 0 0, .slice none 0 0, .int .i64 0, .int .i64 0] 32)) w.heap.size 0 0 0 0 0 ⟨#[]⟩ ⟨#[]⟩ ⟨#[]⟩ 0 (.slice none 0 0) (.slice none 0 0) 0 0 from blk_new w _)
  have B0 := Aside0.mk (below_alloc (Below.refl w.heap.size w) (.cells #[.int .i64 0, .int .i64 0, .int .i64 0, .int .i64 0, .int .i64 0, .string ⟨#[]⟩, .string ⟨#[]⟩, .string ⟨#[]⟩, .int .i64 0, .slice none 0 0, .slice none 0 0, .int .i64 0, .int .i64 0] 32))
  go_enter Tryz.func21, Tryz.ntmps21
  go_wp2_with fail
  have L1 := Aside0.mk (IsLog.below LL.out (below_alloc (Below.refl _ _) (.cells #[.int .i64 0, .int .i64 0, .int .i64 0, .int .i64 0, .int .i64 0, .string ⟨#[]⟩, .string ⟨#[]⟩, .string ⟨#[]⟩, .int .i64 0, .slice none 0 0, .slice none 0 0, .int .i64 0, .int .i64 0] 32)))
  refine (log_none L d base sectors run all dur _ L1.out).mono ?_
  rintro e w1 ⟨rfl, rfl⟩
  have c4 := IsLog.at_4 L1.out
  go_wp2_with fail
  refine (rec_Open.calls k all (lsn - 1) y1 y2 y3 y4 y5 y6 y7 y8 y9 y10 y11 y12 y13 y14 y15 _ HO.out).mono ?_
  rintro e w2 ⟨v9, v10, rfl, q9, q10, q⟩
  obtain ⟨A9, c9, rfl⟩ := Kd.R_slice q9
  obtain ⟨A10, c10, rfl⟩ := Kd.R_slice q10
  have hsz : (w.alloc (.cells #[.int .i64 0, .int .i64 0, .int .i64 0, .int .i64 0, .int .i64 0, .string ⟨#[]⟩, .string ⟨#[]⟩, .string ⟨#[]⟩, .int .i64 0, (.slice none 0 0), (.slice none 0 0), .int .i64 0, .int .i64 0] 32)).heap.size = w.heap.size + 1 := by simp
  rw [hsz] at q9 q10
  have N2 := Aside0.mk (show Rows2 w2 (w.heap.size + 1) w2.heap.size (.slice A9 y10.length c9) y10 (.slice A10 y11.length c10) y11 from ⟨Kd.R_mono (Kd.R_bound q9) (fun k hz => ⟨hz.2.1, hz.2.2.1⟩), Kd.R_mono (Kd.R_bound q10) (fun k hz => ⟨hz.2.1, hz.2.2.1⟩), Nat.le_refl _⟩)
  have B3 := Aside0.mk (below_alloc (below_step B0.out q) (.cells #[.int .i64 y1, .int .i64 y2, .int .i64 y3, .int .i64 y4, .int .i64 y5, .string y6, .string y7, .string y8, .int .i64 y9, (.slice A9 y10.length c9), (.slice A10 y11.length c10), .int .i64 y12, .int .i64 y13] 32))
  have Z3 := Aside0.mk (IsRec.below (IsRec.below Z0.out q) (below_alloc (Below.refl _ _) (.cells #[.int .i64 y1, .int .i64 y2, .int .i64 y3, .int .i64 y4, .int .i64 y5, .string y6, .string y7, .string y8, .int .i64 y9, (.slice A9 y10.length c9), (.slice A10 y11.length c10), .int .i64 y12, .int .i64 y13] 32)))
  have N3 := Aside0.mk (Rows2.below N2.out (below_alloc (Below.refl _ _) (.cells #[.int .i64 y1, .int .i64 y2, .int .i64 y3, .int .i64 y4, .int .i64 y5, .string y6, .string y7, .string y8, .int .i64 y9, (.slice A9 y10.length c9), (.slice A10 y11.length c10), .int .i64 y12, .int .i64 y13] 32)))
  have O3 := Aside0.mk (show IsRec (w2.alloc (.cells #[.int .i64 y1, .int .i64 y2, .int .i64 y3, .int .i64 y4, .int .i64 y5, .string y6, .string y7, .string y8, .int .i64 y9, (.slice A9 y10.length c9), (.slice A10 y11.length c10), .int .i64 y12, .int .i64 y13] 32)) w2.heap.size y1 y2 y3 y4 y5 y6 y7 y8 y9 (.slice A9 y10.length c9) (.slice A10 y11.length c10) y12 y13 from blk_new w2 _)
  clear q9 q10 q hsz Z0 B0 L1 c4; have hh := HH.out
  by_cases he : y15 = 0
  · subst he
    rw [if_pos rfl] at hh
    simp only [Option.some.injEq, Prod.mk.injEq] at hh
    obtain ⟨rfl, rfl, rfl, rfl, rfl, rfl, rfl, rfl, rfl, rfl, rfl, rfl, rfl, rfl, rfl⟩ := hh
    obtain ⟨zZ3_0, zZ3_1, zZ3_2, zZ3_3, zZ3_4, zZ3_5, zZ3_6, zZ3_7, zZ3_8, zZ3_9, zZ3_10, zZ3_11, zZ3_12⟩ := IsRec.ats Z3.out; obtain ⟨yZ3_0, yZ3_1, yZ3_2, yZ3_3, yZ3_4, yZ3_5, yZ3_6, yZ3_7, yZ3_8, yZ3_9, yZ3_10, yZ3_11, yZ3_12⟩ := IsRec.frees Z3.out; obtain ⟨zO3_0, zO3_1, zO3_2, zO3_3, zO3_4, zO3_5, zO3_6, zO3_7, zO3_8, zO3_9, zO3_10, zO3_11, zO3_12⟩ := IsRec.ats O3.out; obtain ⟨yO3_0, yO3_1, yO3_2, yO3_3, yO3_4, yO3_5, yO3_6, yO3_7, yO3_8, yO3_9, yO3_10, yO3_11, yO3_12⟩ := IsRec.frees O3.out
    go_wp2_with fail
    have ZZ := (IsRec.sets13 Z3.out y1 y2 y3 y4 y5 y6 y7 y8 y9 (.slice A9 y10.length c9) (.slice A10 y11.length c10) y12 y13)
    have QQ := Rows2.done (b := w.heap.size) (Rows2.sets13 N3.out (show w.heap.size < w.heap.size + 1 by omega) (.int .i64 y1) (.int .i64 y2) (.int .i64 y3) (.int .i64 y4) (.int .i64 y5) (.string y6) (.string y7) (.string y8) (.int .i64 y9) (.slice A9 y10.length c9) (.slice A10 y11.length c10) (.int .i64 y12) (.int .i64 y13)) (show w.heap.size ≤ w.heap.size + 1 by omega)
    (try simp only [Exit.inBlock, Exit.then])
    refine bodyPost_ret (results_ctt rfl _ _ w.heap.size 32 #[.int .i64 y1, .int .i64 y2, .int .i64 y3, .int .i64 y4, .int .i64 y5, .string y6, .string y7, .string y8, .int .i64 y9, (.slice A9 y10.length c9), (.slice A10 y11.length c10), .int .i64 y12, .int .i64 y13] (0, 0) _ rfl ZZ hu32 rfl (by kernel_rfl)) rfl ?_
    exact ⟨_, _, rfl, QQ.1, QQ.2, (below13 B3.out (Nat.le_refl _))⟩
  · rw [if_neg he] at hh
    simp only [Option.some.injEq, Prod.mk.injEq] at hh
    obtain ⟨rfl, rfl, rfl, rfl, rfl, rfl, rfl, rfl, rfl, rfl, rfl, rfl, rfl, rfl, rfl⟩ := hh
    have u0 : (y15 == 0) = false := beq_eq_false_iff_ne.mpr he
    have u1 : (y15 != 0) = true := bne_iff_ne.mpr he
    obtain ⟨zZ3_0, zZ3_1, zZ3_2, zZ3_3, zZ3_4, zZ3_5, zZ3_6, zZ3_7, zZ3_8, zZ3_9, zZ3_10, zZ3_11, zZ3_12⟩ := IsRec.ats Z3.out; obtain ⟨yZ3_0, yZ3_1, yZ3_2, yZ3_3, yZ3_4, yZ3_5, yZ3_6, yZ3_7, yZ3_8, yZ3_9, yZ3_10, yZ3_11, yZ3_12⟩ := IsRec.frees Z3.out
    go_wp2_with fail
    have ZZ := (IsRec.sets13 Z3.out 0 0 0 0 0 ⟨#[]⟩ ⟨#[]⟩ ⟨#[]⟩ 0 (.slice none 0 0) (.slice none 0 0) 0 0)
    (try simp only [Exit.inBlock, Exit.then])
    refine bodyPost_ret (results_ctt rfl _ _ w.heap.size 32 #[.int .i64 0, .int .i64 0, .int .i64 0, .int .i64 0, .int .i64 0, .string ⟨#[]⟩, .string ⟨#[]⟩, .string ⟨#[]⟩, .int .i64 0, (.slice none 0 0), (.slice none 0 0), .int .i64 0, .int .i64 0] (0, 0) _ rfl ZZ hu32 rfl (by kernel_rfl)) rfl ?_
    exact ⟨_, _, rfl, Kd.R_nil _ _ _ _ _, Kd.R_nil _ _ _ _ _, (below13 B3.out (Nat.le_refl _))⟩
end Go.Proofs.YteoebfiacnploaaGreat.HRec
namespace Go.Proofs.YteoebfiacnploaaGreat.HRec
open Go.RowKit Go.Proofs.YteoebfiacnploaaGreatW.PrintWords Go.Proofs.YteoebfiacnploaaGreatW.PrintLast Go.Proofs.YteoebfiacnploaaGreatW.PrintMore
set_option linter.unusedVariables false
set_option linter.unusedSimpArgs false
theorem read_tot (all : ByteArray) (lsn : Int) (hs : all.size ≤ 11600) (h1 : 1 ≤ lsn) : ∃ r, readF 5 all lsn = some r ∧ (r.2.2.2.2.2.2.2.2.2.2.2.2.2.2 = 0 → lsn + 7 ≤ r.2.2.2.2.2.2.2.2.2.2.2.2.2.1 ∧ r.2.2.2.2.2.2.2.2.2.2.2.2.2.1 ≤ all.size + 1) := by
  obtain ⟨y, hy, hb⟩ := Open_tot all (lsn - 1) (by omega)
  unfold readF
  rw [hy, Option.bind_some]
  by_cases he : y.2.2.2.2.2.2.2.2.2.2.2.2.2.2 = 0
  · have hb := hb he
    rw [if_pos he, w64 (n := lsn + _) (by omega) (by omega)]
    exact ⟨_, rfl, fun _ => ⟨by dsimp only; omega, by dsimp only; omega⟩⟩
  · rw [if_neg he]
    exact ⟨_, rfl, fun h => absurd h he⟩
end Go.Proofs.YteoebfiacnploaaGreat.HRec
namespace Go.Proofs.YteoebfiacnploaaGreat.HRec
open Go.RowKit Go.Proofs.YteoebfiacnploaaGreatW.PrintWords Go.Proofs.YteoebfiacnploaaGreatW.PrintLast Go.Proofs.YteoebfiacnploaaGreatW.PrintMore
set_option linter.unusedVariables false
set_option linter.unusedSimpArgs false
/-- A frame and the clean record that it is of. -/
def FrameOk (f : RecT × ByteArray) : Prop := (∃ x0 x1 x2 x3 x4 k o n x8 l9 l10 x11 x12, f.1 = cleanR x0 x1 x2 x3 x4 k o n x8 l9 l10 x11 x12) ∧ f.1.2.2.2.2.2.2.2.2.2.1.length ≤ 9223372036854775807 ∧ frameF f.1 = some (f.2, 0)
def catB : List (RecT × ByteArray) → ByteArray
  | [] => ⟨#[]⟩
  | f :: r => f.2 ++ catB r
theorem catB_app : ∀ (a b : List (RecT × ByteArray)), catB (a ++ b) = catB a ++ catB b
  | [], b => (nil_app _).symm
  | f :: a, b => by
    show f.2 ++ catB (a ++ b) = (f.2 ++ catB a) ++ catB b
    rw [catB_app a b, ByteArray.append_assoc]
/-- A log's bytes are whole frames. -/
def GoodLog (all : ByteArray) : Prop := ∃ fs : List (RecT × ByteArray), (∀ f ∈ fs, FrameOk f) ∧ all = catB fs
theorem GoodLog.nil : GoodLog ⟨#[]⟩ := ⟨[], fun f hf => absurd hf (List.not_mem_nil), rfl⟩
theorem GoodLog.app {all : ByteArray} (h : GoodLog all) (y : RecT) (s : ByteArray) (hf : FrameOk (y, s)) : GoodLog (all ++ s) := by
  obtain ⟨fs, h1, rfl⟩ := h
  refine ⟨fs ++ [(y, s)], fun f hm => ?_, ?_⟩
  · rcases List.mem_append.mp hm with hm | hm
    · exact h1 f hm
    · rw [List.mem_singleton.mp hm]; exact hf
  · rw [catB_app]
    show catB fs ++ s = catB fs ++ (s ++ ⟨#[]⟩)
    rw [app_nil]
/-- What Append makes of a log of whole frames is one. -/
theorem GoodLog.appF {all : ByteArray} (h : GoodLog all) (x0 x1 x2 x3 x4 : Int) (k o n : ByteArray) (x8 : Int) (l9 : List S144) (l10 : List S36) (x11 x12 : Int) (h9 : l9.length ≤ 9223372036854775807) (hc : (cleanR x0 x1 x2 x3 x4 k o n x8 l9 l10 x11 x12).2.2.2.2.2.2.2.2.2.1.length ≤ l9.length) (s : ByteArray) (e : Int) (hf : frameF (cleanR x0 x1 x2 x3 x4 k o n x8 l9 l10 x11 x12) = some (s, e)) : GoodLog (HRec.appF all s e).1 := by
  unfold HRec.appF
  by_cases he : e = 0
  · subst he
    rw [if_pos rfl]
    unfold addF
    by_cases hz : (s.size : Int) > 11600 - (all.size : Int)
    · rw [if_pos hz]; exact h
    · rw [if_neg hz]
      exact h.app _ s ⟨⟨x0, x1, x2, x3, x4, k, o, n, x8, l9, l10, x11, x12, rfl⟩, Nat.le_trans hc h9, hf⟩
  · rw [if_neg he]; exact h
/-- From a place on a log is read to its end. -/
inductive Ends (all : ByteArray) : Int → Prop
  | done : Ends all ((all.size : Int) + 1)
  | step {lsn next : Int} {r : Int × Int × Int × Int × Int × ByteArray × ByteArray × ByteArray × Int × List S144 × List S36 × Int × Int × Int × Int} : 1 ≤ lsn → lsn ≤ (all.size : Int) → readF 5 all lsn = some r → r.2.2.2.2.2.2.2.2.2.2.2.2.2.2 = 0 → r.2.2.2.2.2.2.2.2.2.2.2.2.2.1 = next → Ends all next → Ends all lsn
theorem frames_end : ∀ (fs : List (RecT × ByteArray)) (pre : ByteArray), (∀ f ∈ fs, FrameOk f) → (pre ++ catB fs).size ≤ 11600 → Ends (pre ++ catB fs) ((pre.size : Int) + 1)
  | [], pre, _, _ => by
    have : pre ++ catB [] = pre := app_nil pre
    rw [this]
    exact Ends.done
  | (y, s) :: r, pre, hf, hs => by
    obtain ⟨⟨x0, x1, x2, x3, x4, k, o, n, x8, l9, l10, x11, x12, hy⟩, h9, hfr⟩ := hf (y, s) List.mem_cons_self
    have hA : At (pre ++ (s ++ catB r)) pre.size s := (At_app (At_end pre (s ++ catB r))).1
    have hs' : (pre ++ (s ++ catB r)).size ≤ 11600 := hs
    obtain ⟨ho, h7⟩ := frame_read x0 x1 x2 x3 x4 k o n x8 l9 l10 x11 x12 y hy h9 s hfr (pre ++ (s ++ catB r)) pre.size (by omega) hA
    have hA1 := hA.1
    have ih := frames_end r (pre ++ s) (fun f hm => hf f (List.mem_cons_of_mem _ hm)) (by rw [ByteArray.append_assoc]; exact hs')
    rw [ByteArray.append_assoc, ByteArray.size_append] at ih
    show Ends (pre ++ (s ++ catB r)) ((pre.size : Int) + 1)
    refine Ends.step (r := (y.1, y.2.1, y.2.2.1, y.2.2.2.1, y.2.2.2.2.1, y.2.2.2.2.2.1, y.2.2.2.2.2.2.1, y.2.2.2.2.2.2.2.1, y.2.2.2.2.2.2.2.2.1, y.2.2.2.2.2.2.2.2.2.1, y.2.2.2.2.2.2.2.2.2.2.1, y.2.2.2.2.2.2.2.2.2.2.2.1, y.2.2.2.2.2.2.2.2.2.2.2.2, ((pre.size + s.size : Nat) : Int) + 1, 0)) (by omega) (by omega) ?_ rfl rfl ih
    unfold readF
    rw [show (pre.size : Int) + 1 - 1 = (pre.size : Int) by omega, ho, Option.bind_some]
    dsimp only
    rw [if_pos rfl, w64 (by omega) (by omega)]
    have : (pre.size : Int) + 1 + (s.size : Int) = ((pre.size + s.size : Nat) : Int) + 1 := by omega
    rw [this]
theorem GoodLog.ends {all : ByteArray} (h : GoodLog all) (hs : all.size ≤ 11600) : Ends all 1 := by
  obtain ⟨fs, h1, rfl⟩ := h
  have := frames_end fs ⟨#[]⟩ h1 (by rw [nil_app]; exact hs)
  rw [nil_app] at this
  exact this
end Go.Proofs.YteoebfiacnploaaGreat.HRec
namespace Go.Proofs.YteoebfiacnploaaGreat.HRec
open Go.RowKit Go.Proofs.YteoebfiacnploaaGreatW.PrintWords Go.Proofs.YteoebfiacnploaaGreatW.PrintLast Go.Proofs.YteoebfiacnploaaGreatW.PrintMore
set_option linter.unusedVariables false
set_option linter.unusedSimpArgs false
/-- A log's bytes are at most so many whole frames. -/
def LogOf (n : Nat) (all : ByteArray) : Prop := ∃ fs : List (RecT × ByteArray), fs.length ≤ n ∧ (∀ f ∈ fs, FrameOk f) ∧ all = catB fs
theorem LogOf.mono {n m : Nat} {all : ByteArray} (h : LogOf n all) (hm : n ≤ m) : LogOf m all := by
  obtain ⟨fs, h0, h1, h2⟩ := h
  exact ⟨fs, Nat.le_trans h0 hm, h1, h2⟩
theorem LogOf.appF {m : Nat} {all : ByteArray} (h : LogOf m all) (x0 x1 x2 x3 x4 : Int) (k o n : ByteArray) (x8 : Int) (l9 : List S144) (l10 : List S36) (x11 x12 : Int) (h9 : l9.length ≤ 9223372036854775807) (hc : (cleanR x0 x1 x2 x3 x4 k o n x8 l9 l10 x11 x12).2.2.2.2.2.2.2.2.2.1.length ≤ l9.length) (s : ByteArray) (e : Int) (hf : frameF (cleanR x0 x1 x2 x3 x4 k o n x8 l9 l10 x11 x12) = some (s, e)) : LogOf (m + 1) (HRec.appF all s e).1 := by
  unfold HRec.appF
  by_cases he : e = 0
  · subst he
    rw [if_pos rfl]
    unfold addF
    by_cases hz : (s.size : Int) > 11600 - (all.size : Int)
    · rw [if_pos hz]; exact h.mono (Nat.le_succ _)
    · rw [if_neg hz]
      obtain ⟨fs, h0, h1, rfl⟩ := h
      refine ⟨fs ++ [(cleanR x0 x1 x2 x3 x4 k o n x8 l9 l10 x11 x12, s)], by rw [List.length_append, List.length_singleton]; omega, fun f hm => ?_, ?_⟩
      · rcases List.mem_append.mp hm with hm | hm
        · exact h1 f hm
        · rw [List.mem_singleton.mp hm]; exact ⟨⟨x0, x1, x2, x3, x4, k, o, n, x8, l9, l10, x11, x12, rfl⟩, Nat.le_trans hc h9, hf⟩
      · rw [catB_app]
        show catB fs ++ s = catB fs ++ (s ++ ⟨#[]⟩)
        rw [app_nil]
  · rw [if_neg he]; exact h.mono (Nat.le_succ _)
set_option maxHeartbeats 16000000 in
set_option maxRecDepth 100000 in
theorem law_LogN (A1 : Option Addr) (c1 : Nat) (l : List RecT) (most : Int) (w : World) (hr : Kd.C kRec w A1 l.length l) :
    Calls Tryz.prog 6 #[.slice A1 l.length c1, .int .i64 most] w fun e w' => ∃ L d all, e = .returned (.pointer (some ⟨L, 0, none⟩)) ∧ IsLog w' L d 0 200 1 all 0 ∧ all.size ≤ 11600 ∧ LogOf most.toNat all ∧ w.heap.size ≤ L ∧ Below w.heap.size w w' := by
  have HR := Aside0.mk hr; have HLN := Aside0.mk hr.2.1; have HN := Aside0.mk (disk_New 200 w (by omega) (by omega)); have hu32 := Tryz.underlying32; clear hr
  go_enter Tryz.func6, Tryz.ntmps6
  go_wp2_with fail
  refine HN.out.mono ?_
  rintro e w1 ⟨d, m, A, c, rfl, hd, hm, hm0, hmd, hrow, hb⟩
  have HO := Aside0.mk (wal_Open d m A c w w1 hd hm hrow hmd hb hm0); clear hd hm hm0 hmd hrow hb HN
  go_wp2_with fail
  refine HO.out.mono ?_
  rintro e w2 ⟨L, rfl, hl, hl0, hb⟩
  have HL := Aside0.mk hl; have HB := Aside0.mk hb; have HL0 := Aside0.mk hl0; clear hl hb hl0 HO
  go_wp2_with fail
  go_loopg [9] (l.length) (fun kq v9 w' => ∃ (i : Int) (all : ByteArray), v9 = .int .i64 i ∧ Aside0 (0 ≤ i ∧ i.toNat + kq = l.length) ∧ Aside0 (IsLog w' L d 0 200 1 all 0) ∧ Aside0 (all.size ≤ 11600) ∧ Aside0 (LogOf i.toNat all ∧ (i ≤ most ∨ i = 0)) ∧ Aside0 (Below w.heap.size w w'))
  case atStart => exact ⟨0, ⟨#[]⟩, rfl, ⟨by omega, by simp⟩, HL, ⟨by decide⟩, ⟨⟨⟨[], Nat.zero_le _, fun f hf => absurd hf List.not_mem_nil, rfl⟩, .inr rfl⟩⟩, HB⟩
  case round =>
    clear HL HB
    obtain ⟨i, all, rfl, HN, HL, HS, HG, HB⟩ := hrel
    cases gk with
    | zero =>
      have b0 : decide (i < (l.length : Int)) = false := decide_eq_false (by have := HN.out; omega)
      go_wp2_with fail
      go_ret
      exact ⟨L, d, all, rfl, HL.out, HS.out, HG.out.1.mono (by have := HG.out.2; omega), HL0.out, HB.out⟩
    | succ k1 =>
      have hi : i < (l.length : Int) := by have := HN.out; omega
      have h0 : 0 ≤ i := HN.out.1
      have b0 : decide (i < (l.length : Int)) = true := decide_eq_true hi
      have hw : wrap64 (i + 1) = i + 1 := w64 (by omega) (by have := HLN.out; omega)
      have hnx : (i + 1).toNat = i.toNat + 1 := by omega
      by_cases hmo : i < most
      · have b1 : decide (i < most) = true := decide_eq_true hmo
        obtain ⟨ad, A9, c9, A10, c10, rfl, z0, z1, z2, z3, z4, z5, z6, z7, z8, z9, z10, z11, z12, q9, y9, q10, y10⟩ := at_Rec (Kd.C_below HR.out HB.out) i h0 hi
        generalize rd_Rec l i = y at *
        obtain ⟨y0, y1, y2, y3, y4, y5, y6, y7, y8, l9, l10, y11, y12⟩ := y
        dsimp only at z0 z1 z2 z3 z4 z5 z6 z7 z8 z9 z10 z11 z12 q9 y9 q10 y10
        obtain ⟨s, ee, hf, _⟩ := frame_tot (cleanR y0 y1 y2 y3 y4 y5 y6 y7 y8 l9 l10 y11 y12) (Nat.le_trans (cleanR_len y0 y1 y2 y3 y4 y5 y6 y7 y8 l9 l10 y11 y12) q9.2.1)
        have HA := Aside0.mk (log_Append L d 0 1 all 0 y0 y1 y2 y3 y4 y5 y6 y7 y8 A9 c9 l9 A10 c10 l10 y11 y12 s ee w wr HL.out HS.out HB.out HL0.out q9 y9 q10 y10 hf); have HS2 := Aside0.mk (appF_size all s ee HS.out)
        have HG2 : Aside0 (LogOf (i + 1).toNat (appF all s ee).1 ∧ (i + 1 ≤ most ∨ i + 1 = 0)) := ⟨by
          rw [hnx]
          exact ⟨LogOf.appF HG.out.1 y0 y1 y2 y3 y4 y5 y6 y7 y8 l9 l10 y11 y12 q9.2.1 (cleanR_len y0 y1 y2 y3 y4 y5 y6 y7 y8 l9 l10 y11 y12) s ee hf, .inl (by omega)⟩⟩
        clear q9 y9 q10 y10 hf hmo
        go_wp2_with fail
        refine HA.out.mono ?_
        rintro e w3 ⟨rfl, hl, hb⟩
        have HL3 := Aside0.mk hl; have HB3 := Aside0.mk hb; clear hl hb HA z0 z1 z2 z3 z4 z5 z6 z7 z8 z9 z10 z11 z12
        go_wp2_with fail
        go_roundg k1
        case measure => omega
        case rel => exact ⟨i + 1, _, by first | rfl | rw [hw], ⟨by omega, by have := HN.out; omega⟩, HL3, HS2, HG2, HB3⟩
      · have b1 : decide (i < most) = false := decide_eq_false hmo
        clear hmo
        go_wp2_with fail
        go_ret
        exact ⟨L, d, all, rfl, HL.out, HS.out, HG.out.1.mono (by have := HG.out.2; omega), HL0.out, HB.out⟩
end Go.Proofs.YteoebfiacnploaaGreat.HRec
