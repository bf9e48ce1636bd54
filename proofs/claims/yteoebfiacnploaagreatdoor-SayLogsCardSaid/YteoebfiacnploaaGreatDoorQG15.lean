/- Texts of this proof, put together: WalD, PureRead. They prove no statement. -/
import Derived.Test.YteoebfiacnploaaGreatDoorQG14
import Derived.Test.YteoebfiacnploaaGreatDoorQG4
import Derived.Test.YteoebfiacnploaaGreatDoorQPureTot
import Derived.Deep.LoopGhost
namespace Go.Proofs.YteoebfiacnploaaGreatDoor.HRec
open Go.RowKit Go.Proofs.YteoebfiacnploaaGreatDoorW.PrintWords Go.Proofs.YteoebfiacnploaaGreatDoorW.PrintLast Go.Proofs.YteoebfiacnploaaGreatDoorW.PrintMore
set_option linter.unusedVariables false
set_option linter.unusedSimpArgs false
/-- The records of a log's bytes from a place on, behind some, and where they begin. -/
def recsL : Nat → ByteArray → List RecT → List Int → Int → Option (List RecT × List Int)
  | 0, _, _, _, _ => none
  | k + 1, all, rs, ps, lsn => if lsn ≤ (all.size : Int) then (readF 5 all lsn).bind fun r => if r.2.2.2.2.2.2.2.2.2.2.2.2.2.2 = 0 then recsL k all (rs ++ [(r.1, r.2.1, r.2.2.1, r.2.2.2.1, r.2.2.2.2.1, r.2.2.2.2.2.1, r.2.2.2.2.2.2.1, r.2.2.2.2.2.2.2.1, r.2.2.2.2.2.2.2.2.1, r.2.2.2.2.2.2.2.2.2.1, r.2.2.2.2.2.2.2.2.2.2.1, r.2.2.2.2.2.2.2.2.2.2.2.1, r.2.2.2.2.2.2.2.2.2.2.2.2.1)]) (ps ++ [lsn]) r.2.2.2.2.2.2.2.2.2.2.2.2.2.1 else some (rs, ps) else some (rs, ps)
theorem read_tot (all : ByteArray) (lsn : Int) (hs : all.size ≤ 11600) (h1 : 1 ≤ lsn) : ∃ r, readF 5 all lsn = some r ∧ (r.2.2.2.2.2.2.2.2.2.2.2.2.2.2 = 0 → lsn + 7 ≤ r.2.2.2.2.2.2.2.2.2.2.2.2.2.1 ∧ r.2.2.2.2.2.2.2.2.2.2.2.2.2.1 ≤ all.size + 1) := by
  obtain ⟨y, hy, hb⟩ := Open_tot all (lsn - 1) (by omega)
  unfold readF
  rw [hy, Option.bind_some]
  by_cases he : y.2.2.2.2.2.2.2.2.2.2.2.2.2.2 = 0
  · have hb := hb he
    rw [if_pos he, w64 (n := lsn + _) (by omega) (by omega)]
    exact ⟨_, rfl, fun _ => ⟨by dsimp only; omega, by dsimp only; omega⟩⟩
  · rw [if_neg he]
    exact ⟨_, rfl, fun h => absurd h he⟩
theorem recsL_tot (all : ByteArray) (hs : all.size ≤ 11600) : ∀ (n k : Nat) (rs : List RecT) (ps : List Int) (lsn : Int), 1 ≤ lsn → (all.size + 1 - lsn).toNat ≤ n → n + 1 ≤ k → ∃ a b, recsL k all rs ps lsn = some (a, b)
  | n, 0, _, _, _, _, _, hk => absurd hk (by omega)
  | n, k + 1, rs, ps, lsn, h1, hn, hk => by
    unfold recsL
    by_cases hc : lsn ≤ (all.size : Int)
    · obtain ⟨r, hr, hb⟩ := read_tot all lsn hs h1
      rw [if_pos hc, hr, Option.bind_some]
      by_cases he : r.2.2.2.2.2.2.2.2.2.2.2.2.2.2 = 0
      · have hb := hb he
        obtain ⟨n, rfl⟩ : ∃ m, n = m + 1 := ⟨n - 1, by omega⟩
        rw [if_pos he]
        exact recsL_tot all hs n k _ _ _ (by omega) (by omega) (by omega)
      · rw [if_neg he]
        exact ⟨_, _, rfl⟩
    · rw [if_neg hc]
      exact ⟨_, _, rfl⟩
/-- All records of a log's bytes, and where they begin. -/
def recsF (all : ByteArray) : List RecT × List Int := (recsL 11700 all [] [] 1).getD ([], [])
theorem recsF_eq (all : ByteArray) (hs : all.size ≤ 11600) : recsL 11700 all [] [] 1 = some ((recsF all).1, (recsF all).2) := by
  obtain ⟨a, b, h⟩ := recsL_tot all hs 11600 11700 [] [] 1 (by omega) (by omega) (by omega)
  unfold recsF
  rw [h]
  rfl
set_option maxHeartbeats 16000000 in
set_option maxRecDepth 100000 in
theorem log_Records_k (k : Nat) (L d : Nat) (base sectors run : Int) (all : ByteArray) (dur : Int) (R : List RecT) (S : List Int) (w : World) (hL : IsLog w L d base sectors run all dur) (hs : all.size ≤ 11600) (h : recsL k all [] [] 1 = some (R, S)) :
    Calls Tryz.prog 5 #[.pointer (some ⟨L, 0, none⟩)] w fun e w' => ∃ v1 v2 : Value, e = .returned (.tuple #[v1, v2]) ∧ Kd.R kRec 33 w' w.heap.size (fun _ => True) v1 R ∧ Kd.R (Kd.int .i64) 3 w' w.heap.size (fun _ => True) v2 S ∧ Below w.heap.size w w' := by
  have hu32 := Tryz.underlying33; have LL := Aside0.mk hL; have HS := Aside0.mk hs; have HH := Aside0.mk h; have HB := Aside0.mk (Below.refl w.heap.size w); clear hL hs h
  go_enter Tryz.func5, Tryz.ntmps5
  go_wp2_with fail
  refine (log_none L d base sectors run all dur w LL.out).mono ?_
  rintro e w1 ⟨rfl, hw⟩
  rw [hw]
  clear hw w1
  go_wp2_with fail
  go_loopg [4, 5, 6] k (fun kq v4 v5 v6 w' => ∃ (rs : List RecT) (ps : List Int) (lsn : Int), v6 = .int .i64 lsn ∧ Aside0 (recsL kq all rs ps lsn = some (R, S)) ∧ Aside0 (kq ≤ k) ∧ Aside0 (1 ≤ lsn ∧ (rs.length : Int) < lsn ∧ (ps.length : Int) < lsn) ∧ Aside0 (Kd.R kRec 33 w' w.heap.size (fun _ => True) v4 rs) ∧ Aside0 (Kd.R (Kd.int .i64) 3 w' w.heap.size (fun _ => True) v5 ps) ∧ Aside0 (Below w.heap.size w w'))
  case atStart => exact ⟨[], [], 1, rfl, HH, ⟨Nat.le_refl _⟩, ⟨by decide, by decide, by decide⟩, ⟨Kd.R_nil _ _ _ _ _⟩, ⟨Kd.R_nil _ _ _ _ _⟩, HB⟩
  case round =>
    clear HH HB
    obtain ⟨rs, ps, lsn, rfl, HA, HK1, HN, HO4, HO5, HB⟩ := hrel
    have hLr := Aside0.mk (IsLog.below LL.out HB.out)
    cases gk with
    | zero => exact absurd HA.out (by simp [recsL])
    | succ k1 =>
      have H := HA.out; clear HA
      simp only [recsL] at H
      have c4r := IsLog.at_4 hLr.out
      by_cases c1 : lsn ≤ (all.size : Int)
      · rw [if_pos c1] at H
        have c1b : decide (lsn ≤ (all.size : Int)) = true := decide_eq_true c1
        have C1 := Aside0.mk c1; clear c1
        replace H := Option.bind_eq_some_iff.mp H
        obtain ⟨⟨y1, y2, y3, y4, y5, y6, y7, y8, y9, y10, y11, y12, y13, y14, y15⟩, A5, H⟩ := H
        dsimp only at H
        have A6 : y15 = 0 → lsn + 7 ≤ y14 := by
          intro h0
          obtain ⟨r, hr, hb⟩ := read_tot all lsn HS.out HN.out.1
          rw [hr] at A5
          injection A5 with A5
          subst A5
          exact (hb h0).1
        have A5 := Aside0.mk A5
        go_wp2_with fail
        refine (log_Read 5 L d base sectors run all dur lsn y1 y2 y3 y4 y5 y6 y7 y8 y9 y10 y11 y12 y13 y14 y15 wr hLr.out HN.out.1 C1.out (by have := HS.out; omega) A5.out).mono ?_
        rintro e w1 ⟨v9, v10, rfl, q9, q10, hb⟩
        have HP9 := Aside0.mk (Kd.R_lower (Kd.R_mono (Kd.R_bound q9) (fun k h => h.2.1)) HB.out.size)
        have HP10 := Aside0.mk (Kd.R_lower (Kd.R_mono (Kd.R_bound q10) (fun k h => h.2.1)) HB.out.size)
        obtain ⟨A9, c9, rfl⟩ := Kd.R_slice q9
        obtain ⟨A10, c10, rfl⟩ := Kd.R_slice q10
        have HN4 : Aside0 (∀ k, u4.ownBlock = some k → k < wr.heap.size) := ⟨fun k hk => ((Kd.R_bound HO4.out).1 k hk).2.2.1⟩
        have HO4b := Aside0.mk (Kd.R_below HO4.out hb); have HO5b := Aside0.mk (Kd.R_below HO5.out hb); have HBb := Aside0.mk (below_step HB.out hb); clear q9 q10 hb HO4 HO5 HB A5 c1b c4r hLr
        by_cases he : y15 = 0
        · rw [if_pos he] at H
          have A6 := A6 he
          have b0 : (y15 != 0) = false := bne_eq_false_iff_eq.mpr he
          clear he
          have H' := Aside0.mk H
          clear H
          have HN5 : Aside0 (∀ k, (fun k => wr.heap.size ≤ k) k → ((fun _ => True : Nat → Prop) k) ∧ some k ≠ u4.ownBlock) := ⟨fun k hk => ⟨trivial, fun he => absurd (HN4.out k he.symm) (Nat.not_lt.mpr hk)⟩⟩
          go_wp2_with (first | ((with_reducible refine gate_builtin (b := .append) (xs := #[.tmp 28, .tmp 30]) rfl ?_); at_builtin; refine Kd.R_append (w0 := w) kRec w.heap.size ?ag (.tmp 28) (.tmp 30) 22 33 (.agg #[.int .i64 0, .int .i64 0, .int .i64 0, .int .i64 0, .int .i64 0, .string ⟨#[]⟩, .string ⟨#[]⟩, .string ⟨#[]⟩, .int .i64 0, .slice none 0 0, .slice none 0 0, .int .i64 0, .int .i64 0]) 160 ?ao ?aT ?ai ?az ?a0 ?a1 u4 rs (y1, y2, y3, y4, y5, y6, y7, y8, y9, y10, y11, y12, y13) [.int .i64 y1, .int .i64 y2, .int .i64 y3, .int .i64 y4, .int .i64 y5, .string y6, .string y7, .string y8, .int .i64 y9, .slice A9 y10.length c9, .slice A10 y11.length c10, .int .i64 y12, .int .i64 y13] (fun _ => True) (fun k => wr.heap.size ≤ k) ?hs ?hx ?aP HN5.out ?aF ?aO ?aB ?aS ?aL ?_; (case ag => rfl); (case ao => rfl); (case aT => exact Tryz.underlying22); (case ai => exact info32); (case az => rfl); (case a0 => decide); (case a1 => omega); (case hs => rfl); (case hx => (show (Value.slice (some ⟨w1.heap.size + 1, 0, none⟩) 1 1) = _; simp)); (case aP => exact kRec_mkM (Kd.R_alloc HP9.out _) (Kd.R_alloc HP10.out _)); (case aF => exact (fun _ _ => trivial)); (case aO => exact Kd.R_alloc HO4b.out _); (case aB => exact below_alloc HBb.out _); (case aS => exact (below_alloc HBb.out _).size); (case aL => have := HN.out; have := HS.out; have := C1.out; omega); intro v4_ w2 ho hb hg hat; have n0_ := Aside0.mk ho; have n1_ := Aside0.mk (R_apart (Kd.R_alloc HO4b.out _) (Kd.R_alloc HO5b.out _) hg (by decide)); have n2_ := Aside0.mk hb; clear ho hb hg hat HO4b HO5b HBb HP9 HP10 HN4 HN5) | ((with_reducible refine gate_builtin (b := .append) (xs := #[.tmp 32, .tmp 34]) rfl ?_); at_builtin; refine Kd.R_append (w0 := w) (Kd.int .i64) w.heap.size rfl (.tmp 32) (.tmp 34) 25 3 (.int .i64 0) 8 rfl Tryz.underlying25 info3 rfl (by decide) (by omega) u5 ps lsn [.int .i64 lsn] (fun _ => True) (fun _ => False) rfl rfl ?aP (fun _ hk => hk.elim) ?aF ?aO ?aB ?aS ?aL ?_; (case aP => rfl); (case aF => exact (fun _ _ => trivial)); (case aO => exact n1_.out); (case aB => exact n2_.out); (case aS => exact n2_.out.size); (case aL => have := HN.out; have := HS.out; have := C1.out; omega); intro v5_ w3 ho hb hg hat; have m0_ := Aside0.mk (R_apart n1_.out n0_.out hg (by decide)); have m1_ := Aside0.mk ho; have m2_ := Aside0.mk hb; clear ho hb hg hat n0_ n1_ n2_))
          go_roundg k1
          case measure => have := HK1.out; omega
          case rel => exact ⟨_, _, y14, rfl, H', ⟨by have := HK1.out; omega⟩, ⟨by have := HN.out; omega, by have := HN.out; rw [List.length_append]; simp only [List.length_cons, List.length_nil]; omega, by have := HN.out; rw [List.length_append]; simp only [List.length_cons, List.length_nil]; omega⟩, m0_, m1_, m2_⟩
        · rw [if_neg he] at H
          have b0 : (y15 != 0) = true := bne_iff_ne.mpr he
          simp only [Option.some.injEq, Prod.mk.injEq] at H
          obtain ⟨rfl, rfl⟩ := H
          go_wp2_with fail
          go_ret2
          exact ⟨_, _, rfl, Kd.R_alloc HO4b.out _, Kd.R_alloc HO5b.out _, below_alloc HBb.out _⟩
      · rw [if_neg c1] at H
        have c1b : decide (lsn ≤ (all.size : Int)) = false := decide_eq_false c1
        simp only [Option.some.injEq, Prod.mk.injEq] at H
        obtain ⟨rfl, rfl⟩ := H
        go_wp2_with fail
        go_ret2
        exact ⟨_, _, rfl, HO4.out, HO5.out, HB.out⟩
theorem log_Records (L d : Nat) (base sectors run : Int) (all : ByteArray) (dur : Int) (w : World) (hL : IsLog w L d base sectors run all dur) (hs : all.size ≤ 11600) :
    Calls Tryz.prog 5 #[.pointer (some ⟨L, 0, none⟩)] w fun e w' => ∃ v1 v2 : Value, e = .returned (.tuple #[v1, v2]) ∧ Kd.R kRec 33 w' w.heap.size (fun _ => True) v1 (recsF all).1 ∧ Kd.R (Kd.int .i64) 3 w' w.heap.size (fun _ => True) v2 (recsF all).2 ∧ Below w.heap.size w w' := log_Records_k 11700 L d base sectors run all dur _ _ w hL hs (recsF_eq all hs)
end Go.Proofs.YteoebfiacnploaaGreatDoor.HRec
namespace Go.Proofs.YteoebfiacnploaaGreatDoor.HRec
open Go.RowKit Go.Proofs.YteoebfiacnploaaGreatDoorW.PrintWords Go.Proofs.YteoebfiacnploaaGreatDoorW.PrintLast Go.Proofs.YteoebfiacnploaaGreatDoorW.PrintMore
set_option linter.unusedVariables false
set_option linter.unusedSimpArgs false
theorem tail_body {s : ByteArray} {st : RdT} {x0 x1 x2 x3 x4 : Int} {k o n : ByteArray} {x8 : Int} {l9 : List S144} {l10 : List S36} {x11 x12 : Int} {y : OfT} (h : ofTail s st x0 x1 x2 x3 x4 k o n x8 l9 l10 x11 x12 = some y) (hy : y.2.2.2.2.2.2.2.2.2.2.2.2.2 = 0) :
    (∃ b, rec_body.f y.1 y.2.1 y.2.2.1 y.2.2.2.1 y.2.2.2.2.1 y.2.2.2.2.2.1 y.2.2.2.2.2.2.1 y.2.2.2.2.2.2.2.1 y.2.2.2.2.2.2.2.2.1 y.2.2.2.2.2.2.2.2.2.1 y.2.2.2.2.2.2.2.2.2.2.1 y.2.2.2.2.2.2.2.2.2.2.2.1 y.2.2.2.2.2.2.2.2.2.2.2.2.1 = some (b, 0)) ∧ y.1 = x0 ∧ y.2.1 = x1 := by
  unfold ofTail at h
  obtain ⟨a, qa, h⟩ := Option.bind_eq_some_iff.mp h
  by_cases ha : a.1 = 0
  · rw [if_pos ha] at h
    obtain ⟨⟨b, e⟩, qb, h⟩ := Option.bind_eq_some_iff.mp h
    dsimp only at h
    by_cases he : e = 0
    · subst he
      rw [if_pos rfl] at h
      by_cases ht : b.toList = s.toList
      · rw [if_pos ht] at h
        simp only [Option.some.injEq] at h
        subst h
        exact ⟨⟨b, qb⟩, rfl, rfl⟩
      · rw [if_neg ht] at h
        simp only [Option.some.injEq] at h
        subst h
        exact absurd hy (by decide)
    · rw [if_neg he] at h
      simp only [Option.some.injEq] at h
      subst h
      exact absurd hy (by decide)
  · rw [if_neg ha] at h
    simp only [Option.some.injEq] at h
    subst h
    exact absurd hy ha
theorem of_body {s : ByteArray} {y : OfT} (h : rec_Of.f s = some y) (hy : y.2.2.2.2.2.2.2.2.2.2.2.2.2 = 0) :
    (∃ b, rec_body.f y.1 y.2.1 y.2.2.1 y.2.2.2.1 y.2.2.2.2.1 y.2.2.2.2.2.1 y.2.2.2.2.2.2.1 y.2.2.2.2.2.2.2.1 y.2.2.2.2.2.2.2.2.1 y.2.2.2.2.2.2.2.2.2.1 y.2.2.2.2.2.2.2.2.2.2.1 y.2.2.2.2.2.2.2.2.2.2.2.1 y.2.2.2.2.2.2.2.2.2.2.2.2.1 = some (b, 0)) ∧ ((y.1 = 3 ∨ y.1 = 4 ∨ y.1 = 5 ∨ y.1 = 6 ∨ y.1 = 7 ∨ y.1 = 8) ∨ y.2.1 = 0) := by
  unfold rec_Of.f at h
  obtain ⟨a, qa, h⟩ := Option.bind_eq_some_iff.mp h
  by_cases ha : a.2.2.2 = 0
  · rw [if_pos ha] at h
    by_cases h1 : a.1 = 1 ∨ a.1 = 2
    · rw [if_pos h1] at h
      obtain ⟨_, _, h⟩ := Option.bind_eq_some_iff.mp h
      exact (tail_body h hy).elim (fun g1 g2 => ⟨g1, by have := g2.1; have := g2.2; omega⟩)
    rw [if_neg h1] at h
    by_cases h6 : a.1 = 6
    · rw [if_pos h6] at h
      obtain ⟨_, _, h⟩ := Option.bind_eq_some_iff.mp h
      obtain ⟨_, _, h⟩ := Option.bind_eq_some_iff.mp h
      obtain ⟨_, _, h⟩ := Option.bind_eq_some_iff.mp h
      obtain ⟨_, _, h⟩ := Option.bind_eq_some_iff.mp h
      obtain ⟨_, _, h⟩ := Option.bind_eq_some_iff.mp h
      exact (tail_body h hy).elim (fun g1 g2 => ⟨g1, by have := g2.1; have := g2.2; omega⟩)
    rw [if_neg h6] at h
    by_cases h3 : a.1 = 3 ∨ a.1 = 4 ∨ a.1 = 5
    · rw [if_pos h3] at h
      obtain ⟨_, _, h⟩ := Option.bind_eq_some_iff.mp h
      obtain ⟨_, _, h⟩ := Option.bind_eq_some_iff.mp h
      obtain ⟨_, _, h⟩ := Option.bind_eq_some_iff.mp h
      exact (tail_body h hy).elim (fun g1 g2 => ⟨g1, by have := g2.1; have := g2.2; omega⟩)
    rw [if_neg h3] at h
    by_cases h7 : a.1 = 7 ∨ a.1 = 8
    · rw [if_pos h7] at h
      obtain ⟨_, _, h⟩ := Option.bind_eq_some_iff.mp h
      obtain ⟨_, _, h⟩ := Option.bind_eq_some_iff.mp h
      exact (tail_body h hy).elim (fun g1 g2 => ⟨g1, by have := g2.1; have := g2.2; omega⟩)
    rw [if_neg h7] at h
    by_cases h9 : a.1 = 9
    · rw [if_pos h9] at h
      obtain ⟨_, _, h⟩ := Option.bind_eq_some_iff.mp h
      exact (tail_body h hy).elim (fun g1 g2 => ⟨g1, by have := g2.1; have := g2.2; omega⟩)
    rw [if_neg h9] at h
    by_cases h10 : a.1 = 10
    · rw [if_pos h10] at h
      obtain ⟨_, _, h⟩ := Option.bind_eq_some_iff.mp h
      obtain ⟨_, _, h⟩ := Option.bind_eq_some_iff.mp h
      exact (tail_body h hy).elim (fun g1 g2 => ⟨g1, by have := g2.1; have := g2.2; omega⟩)
    rw [if_neg h10] at h
    exact (tail_body h hy).elim (fun g1 g2 => ⟨g1, by have := g2.1; have := g2.2; omega⟩)
  · rw [if_neg ha] at h
    simp only [Option.some.injEq] at h
    subst h
    exact absurd hy ha
/-- Whatever is read at a place is a record that could be laid. -/
theorem read_body {all : ByteArray} {lsn : Int} {r : Int × Int × Int × Int × Int × ByteArray × ByteArray × ByteArray × Int × List S144 × List S36 × Int × Int × Int × Int} (h : readF 5 all lsn = some r) (he : r.2.2.2.2.2.2.2.2.2.2.2.2.2.2 = 0) :
    (∃ b, rec_body.f r.1 r.2.1 r.2.2.1 r.2.2.2.1 r.2.2.2.2.1 r.2.2.2.2.2.1 r.2.2.2.2.2.2.1 r.2.2.2.2.2.2.2.1 r.2.2.2.2.2.2.2.2.1 r.2.2.2.2.2.2.2.2.2.1 r.2.2.2.2.2.2.2.2.2.2.1 r.2.2.2.2.2.2.2.2.2.2.2.1 r.2.2.2.2.2.2.2.2.2.2.2.2.1 = some (b, 0)) ∧ ((r.1 = 3 ∨ r.1 = 4 ∨ r.1 = 5 ∨ r.1 = 6 ∨ r.1 = 7 ∨ r.1 = 8) ∨ r.2.1 = 0) := by
  unfold readF at h
  obtain ⟨q, hq, h⟩ := Option.bind_eq_some_iff.mp h
  by_cases hc : q.2.2.2.2.2.2.2.2.2.2.2.2.2.2 = 0
  · rw [if_pos hc] at h
    simp only [Option.some.injEq] at h
    subst h
    dsimp only
    clear he
    have j1 : ∀ (k : Nat) (T : ByteArray) (x7 : Int) (b : Bool), rec_Open.j1 k T x7 b = some q → (∃ b, rec_body.f q.1 q.2.1 q.2.2.1 q.2.2.2.1 q.2.2.2.2.1 q.2.2.2.2.2.1 q.2.2.2.2.2.2.1 q.2.2.2.2.2.2.2.1 q.2.2.2.2.2.2.2.2.1 q.2.2.2.2.2.2.2.2.2.1 q.2.2.2.2.2.2.2.2.2.2.1 q.2.2.2.2.2.2.2.2.2.2.2.1 q.2.2.2.2.2.2.2.2.2.2.2.2.1 = some (b, 0)) ∧ ((q.1 = 3 ∨ q.1 = 4 ∨ q.1 = 5 ∨ q.1 = 6 ∨ q.1 = 7 ∨ q.1 = 8) ∨ q.2.1 = 0) := by
      intro k T x7 b hj
      cases k with
      | zero => exact absurd hj (by simp [rec_Open.j1])
      | succ k =>
        rw [rec_Open.j1] at hj
        split at hj
        · simp only [Option.some.injEq] at hj; subst hj; exact absurd hc (by decide)
        split at hj
        · simp only [Option.some.injEq] at hj; subst hj; exact absurd hc (by decide)
        split at hj
        · split at hj
          · obtain ⟨z, hz, hj⟩ := Option.bind_eq_some_iff.mp hj
            split at hj
            · obtain ⟨y, hy, hj⟩ := Option.bind_eq_some_iff.mp hj
              split at hj
              · rename_i hy0
                simp only [Option.some.injEq] at hj
                subst hj
                exact of_body hy hy0
              · rename_i hy0
                simp only [Option.some.injEq] at hj; subst hj; exact absurd hc hy0
            · rename_i hy0
              simp only [Option.some.injEq] at hj; subst hj; exact absurd hc hy0
          · exact absurd hj (by simp)
        · exact absurd hj (by simp)
    have j0 : ∀ (k : Nat) (T : ByteArray) (x1 : Int) (b : Bool), rec_Open.j0 k T x1 b = some q → (∃ b, rec_body.f q.1 q.2.1 q.2.2.1 q.2.2.2.1 q.2.2.2.2.1 q.2.2.2.2.2.1 q.2.2.2.2.2.2.1 q.2.2.2.2.2.2.2.1 q.2.2.2.2.2.2.2.2.1 q.2.2.2.2.2.2.2.2.2.1 q.2.2.2.2.2.2.2.2.2.2.1 q.2.2.2.2.2.2.2.2.2.2.2.1 q.2.2.2.2.2.2.2.2.2.2.2.2.1 = some (b, 0)) ∧ ((q.1 = 3 ∨ q.1 = 4 ∨ q.1 = 5 ∨ q.1 = 6 ∨ q.1 = 7 ∨ q.1 = 8) ∨ q.2.1 = 0) := by
      intro k T x1 b hj
      cases k with
      | zero => exact absurd hj (by simp [rec_Open.j0])
      | succ k =>
        rw [rec_Open.j0] at hj
        split at hj
        · simp only [Option.some.injEq] at hj; subst hj; exact absurd hc (by decide)
        split at hj
        · split at hj
          · split at hj
            · simp only [Option.some.injEq] at hj; subst hj; exact absurd hc (by decide)
            · obtain ⟨z, hz, hj⟩ := Option.bind_eq_some_iff.mp hj
              obtain ⟨y, hy, hj⟩ := Option.bind_eq_some_iff.mp hj
              split at hj
              · exact j1 _ _ _ _ hj
              · exact j1 _ _ _ _ hj
          · exact absurd hj (by simp)
        · exact absurd hj (by simp)
    unfold rec_Open.f at hq
    split at hq
    · exact j0 _ _ _ _ hq
    · exact j0 _ _ _ _ hq
  · rw [if_neg hc] at h
    simp only [Option.some.injEq] at h
    subst h
    exact absurd he hc
end Go.Proofs.YteoebfiacnploaaGreatDoor.HRec
