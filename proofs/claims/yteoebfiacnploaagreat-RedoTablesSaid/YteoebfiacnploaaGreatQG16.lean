/- Texts of this proof, put together: TopC, Fgharrylaw15same. They prove no statement. -/
import Derived.Test.YteoebfiacnploaaGreatQG11
import Derived.Test.YteoebfiacnploaaGreatQG15
import Derived.Test.YteoebfiacnploaaGreatQFtypes
namespace Go.Proofs.YteoebfiacnploaaGreat.HRec
open Go.RowKit Go.Proofs.YteoebfiacnploaaGreatW.PrintWords Go.Proofs.YteoebfiacnploaaGreatW.PrintLast Go.Proofs.YteoebfiacnploaaGreatW.PrintMore
set_option linter.unusedVariables false
set_option linter.unusedSimpArgs false
/-- A log's bytes are at most so many whole frames. -/
def LogOf (n : Nat) (all : ByteArray) : Prop := ∃ fs : List (RecT × ByteArray), fs.length ≤ n ∧ (∀ f ∈ fs, FrameOk f) ∧ all = catB fs
theorem LogOf.good {n : Nat} {all : ByteArray} (h : LogOf n all) : GoodLog all := by
  obtain ⟨fs, _, h1, h2⟩ := h
  exact ⟨fs, h1, h2⟩
theorem LogOf.mono {n m : Nat} {all : ByteArray} (h : LogOf n all) (hm : n ≤ m) : LogOf m all := by
  obtain ⟨fs, h0, h1, h2⟩ := h
  exact ⟨fs, Nat.le_trans h0 hm, h1, h2⟩
theorem LogOf.appF {m : Nat} {all : ByteArray} (h : LogOf m all) (x0 x1 x2 x3 x4 : Int) (k o n : ByteArray) (x8 : Int) (l9 : List S144) (l10 : List S36) (x11 x12 : Int) (h9 : l9.length ≤ 9223372036854775807) (hc : (cleanR x0 x1 x2 x3 x4 k o n x8 l9 l10 x11 x12).2.2.2.2.2.2.2.2.2.1.length ≤ l9.length) (s : ByteArray) (e : Int) (hf : frameF (cleanR x0 x1 x2 x3 x4 k o n x8 l9 l10 x11 x12) = some (s, e)) : LogOf (m + 1) (HRec.appF all s e).1 := by
  unfold HRec.appF
  by_cases he : e = 0
  · subst he
    rw [if_pos rfl]
    unfold addF
    by_cases hz : (s.size : Int) > 11600 - (all.size : Int)
    · rw [if_pos hz]; exact h.mono (Nat.le_succ _)
    · rw [if_neg hz]
      obtain ⟨fs, h0, h1, rfl⟩ := h
      refine ⟨fs ++ [(cleanR x0 x1 x2 x3 x4 k o n x8 l9 l10 x11 x12, s)], by rw [List.length_append, List.length_singleton]; omega, fun f hm => ?_, ?_⟩
      · rcases List.mem_append.mp hm with hm | hm
        · exact h1 f hm
        · rw [List.mem_singleton.mp hm]; exact ⟨⟨x0, x1, x2, x3, x4, k, o, n, x8, l9, l10, x11, x12, rfl⟩, Nat.le_trans hc h9, hf⟩
      · rw [catB_app]
        show catB fs ++ s = catB fs ++ (s ++ ⟨#[]⟩)
        rw [app_nil]
  · rw [if_neg he]; exact h.mono (Nat.le_succ _)
set_option maxHeartbeats 16000000 in
set_option maxRecDepth 100000 in
theorem law_LogN (A1 : Option Addr) (c1 : Nat) (l : List RecT) (most : Int) (w : World) (hr : Kd.C kRec w A1 l.length l) :
    Calls Tryz.prog 6 #[.slice A1 l.length c1, .int .i64 most] w fun e w' => ∃ L d all, e = .returned (.pointer (some ⟨L, 0, none⟩)) ∧ IsLog w' L d 0 200 1 all 0 ∧ all.size ≤ 11600 ∧ LogOf most.toNat all ∧ w.heap.size ≤ L ∧ Below w.heap.size w w' := by
  have HR := Aside0.mk hr; have HLN := Aside0.mk hr.2.1; have HN := Aside0.mk (disk_New 200 w (by omega) (by omega)); have hu32 := Tryz.underlying32; clear hr
  go_enter Tryz.func6, Tryz.ntmps6
  go_wp2_with fail
  refine HN.out.mono ?_
  rintro e w1 ⟨d, m, A, c, rfl, hd, hm, hm0, hmd, hrow, hb⟩
  have HO := Aside0.mk (wal_Open d m A c w w1 hd hm hrow hmd hb hm0); clear hd hm hm0 hmd hrow hb HN
  go_wp2_with fail
  refine HO.out.mono ?_
  rintro e w2 ⟨L, rfl, hl, hl0, hb⟩
  have HL := Aside0.mk hl; have HB := Aside0.mk hb; have HL0 := Aside0.mk hl0; clear hl hb hl0 HO
  go_wp2_with fail
  go_loopg [9] (l.length) (fun kq v9 w' => ∃ (i : Int) (all : ByteArray), v9 = .int .i64 i ∧ Aside0 (0 ≤ i ∧ i.toNat + kq = l.length) ∧ Aside0 (IsLog w' L d 0 200 1 all 0) ∧ Aside0 (all.size ≤ 11600) ∧ Aside0 (LogOf i.toNat all ∧ (i ≤ most ∨ i = 0)) ∧ Aside0 (Below w.heap.size w w'))
  case atStart => exact ⟨0, ⟨#[]⟩, rfl, ⟨by omega, by simp⟩, HL, ⟨by decide⟩, ⟨⟨⟨[], Nat.zero_le _, fun f hf => absurd hf List.not_mem_nil, rfl⟩, .inr rfl⟩⟩, HB⟩
  case round =>
    clear HL HB
    obtain ⟨i, all, rfl, HN, HL, HS, HG, HB⟩ := hrel
    cases gk with
    | zero =>
      have b0 : decide (i < (l.length : Int)) = false := decide_eq_false (by have := HN.out; omega)
      go_wp2_with fail
      go_ret
      exact ⟨L, d, all, rfl, HL.out, HS.out, HG.out.1.mono (by have := HG.out.2; omega), HL0.out, HB.out⟩
    | succ k1 =>
      have hi : i < (l.length : Int) := by have := HN.out; omega
      have h0 : 0 ≤ i := HN.out.1
      have b0 : decide (i < (l.length : Int)) = true := decide_eq_true hi
      have hw : wrap64 (i + 1) = i + 1 := w64 (by omega) (by have := HLN.out; omega)
      have hnx : (i + 1).toNat = i.toNat + 1 := by omega
      by_cases hmo : i < most
      · have b1 : decide (i < most) = true := decide_eq_true hmo
        obtain ⟨ad, A9, c9, A10, c10, rfl, z0, z1, z2, z3, z4, z5, z6, z7, z8, z9, z10, z11, z12, q9, y9, q10, y10⟩ := at_Rec (Kd.C_below HR.out HB.out) i h0 hi
        generalize rd_Rec l i = y at *
        obtain ⟨y0, y1, y2, y3, y4, y5, y6, y7, y8, l9, l10, y11, y12⟩ := y
        dsimp only at z0 z1 z2 z3 z4 z5 z6 z7 z8 z9 z10 z11 z12 q9 y9 q10 y10
        obtain ⟨s, ee, hf, _⟩ := frame_tot (cleanR y0 y1 y2 y3 y4 y5 y6 y7 y8 l9 l10 y11 y12) (Nat.le_trans (cleanR_len y0 y1 y2 y3 y4 y5 y6 y7 y8 l9 l10 y11 y12) q9.2.1)
        have HA := Aside0.mk (log_Append L d 0 1 all 0 y0 y1 y2 y3 y4 y5 y6 y7 y8 A9 c9 l9 A10 c10 l10 y11 y12 s ee w wr HL.out HS.out HB.out HL0.out q9 y9 q10 y10 hf); have HS2 := Aside0.mk (appF_size all s ee HS.out)
        have HG2 : Aside0 (LogOf (i + 1).toNat (appF all s ee).1 ∧ (i + 1 ≤ most ∨ i + 1 = 0)) := ⟨by
          rw [hnx]
          exact ⟨LogOf.appF HG.out.1 y0 y1 y2 y3 y4 y5 y6 y7 y8 l9 l10 y11 y12 q9.2.1 (cleanR_len y0 y1 y2 y3 y4 y5 y6 y7 y8 l9 l10 y11 y12) s ee hf, .inl (by omega)⟩⟩
        clear q9 y9 q10 y10 hf hmo
        go_wp2_with fail
        refine HA.out.mono ?_
        rintro e w3 ⟨rfl, hl, hb⟩
        have HL3 := Aside0.mk hl; have HB3 := Aside0.mk hb; clear hl hb HA z0 z1 z2 z3 z4 z5 z6 z7 z8 z9 z10 z11 z12
        go_wp2_with fail
        go_roundg k1
        case measure => omega
        case rel => exact ⟨i + 1, _, by first | rfl | rw [hw], ⟨by omega, by have := HN.out; omega⟩, HL3, HS2, HG2, HB3⟩
      · have b1 : decide (i < most) = false := decide_eq_false hmo
        clear hmo
        go_wp2_with fail
        go_ret
        exact ⟨L, d, all, rfl, HL.out, HS.out, HG.out.1.mono (by have := HG.out.2; omega), HL0.out, HB.out⟩
theorem law_LogG (A1 : Option Addr) (c1 : Nat) (l : List RecT) (most : Int) (w : World) (hr : Kd.C kRec w A1 l.length l) :
    Calls Tryz.prog 6 #[.slice A1 l.length c1, .int .i64 most] w fun e w' => ∃ L d all, e = .returned (.pointer (some ⟨L, 0, none⟩)) ∧ IsLog w' L d 0 200 1 all 0 ∧ all.size ≤ 11600 ∧ GoodLog all ∧ w.heap.size ≤ L ∧ Below w.heap.size w w' := by
  refine (law_LogN A1 c1 l most w hr).mono ?_
  rintro e w' ⟨L, d, all, h1, h2, h3, h4, h5, h6⟩
  exact ⟨L, d, all, h1, h2, h3, h4.good, h5, h6⟩
end Go.Proofs.YteoebfiacnploaaGreat.HRec
namespace Go.Proofs.YteoebfiacnploaaGreat.HRec
open Go.RowKit Go.Proofs.YteoebfiacnploaaGreat.HRec Go.Proofs.YteoebfiacnploaaGreatW.PrintWords Go.Proofs.YteoebfiacnploaaGreatW.PrintLast Go.Proofs.YteoebfiacnploaaGreatW.PrintMore
attribute [local go_sem] max2_int min2_int max_two min_two max_three min_three max_four min_four   -- for this text's walks alone
set_option linter.unusedVariables false
set_option linter.unusedSimpArgs false
attribute [local go_sem high] eqA36
/-! ### gharrylaw15_same: function 11 -/
def gharrylaw15_same.l0 : Nat → List (S36) → List (S36) → Int → Option (Bool)
  | 0, _, _, _ => none
  | k + 1, x0, x1, x5 => if x5 < (x0.length : Int) then (if 0 ≤ x5 then (if x5 < (x1.length : Int) then (if (!(((rd_T36 x0 x5).f0) == ((rd_T36 x1 x5).f0)) || (!(((rd_T36 x0 x5).f1) == ((rd_T36 x1 x5).f1)))) = true then (some false) else (gharrylaw15_same.l0 k x0 x1 (wrap64 (x5 + 1)))) else (none)) else (none)) else (some true)
def gharrylaw15_same.f (k : Nat) (l0 : List (S36)) (l1 : List (S36)) : Option (Bool) := if (l0.length : Int) = (l1.length : Int) then (gharrylaw15_same.l0 k l0 l1 0) else (some false)
theorem gharrylaw15_same.mono_l : ∀ k, (∀ y0 y1 y2, LeO (gharrylaw15_same.l0 k y0 y1 y2) (gharrylaw15_same.l0 (k + 1) y0 y1 y2))
  | 0 => fun _ _ _ r h => by simp [gharrylaw15_same.l0] at h
  | k + 1 => by
    have ih0 := gharrylaw15_same.mono_l k
    · intro y0 y1 y2
      unfold gharrylaw15_same.l0
      repeat' first
      | (with_reducible exact ih0 _ _ _)
      | (with_reducible exact LeO.refl _)
      | (with_reducible exact LeO.none _)
      | (with_reducible refine LeO.ite ?_ ?_)
      | (with_reducible refine LeO.bind ?_ (fun _ => ?_))
      | exact ih0 _ _ _
      | exact LeO.none _
      | refine LeO.ite ?_ ?_
      | refine LeO.bind ?_ (fun _ => ?_)
theorem gharrylaw15_same.mono : ∀ a0 a1 k, LeO (gharrylaw15_same.f k a0 a1) (gharrylaw15_same.f (k + 1) a0 a1) := by
  intro a0 a1 k
  have ih0 := gharrylaw15_same.mono_l k
  unfold gharrylaw15_same.f
  repeat' first
      | (with_reducible exact ih0 _ _ _)
      | (with_reducible exact LeO.refl _)
      | (with_reducible exact LeO.none _)
      | (with_reducible refine LeO.ite ?_ ?_)
      | (with_reducible refine LeO.bind ?_ (fun _ => ?_))
      | exact ih0 _ _ _
      | exact LeO.none _
      | refine LeO.ite ?_ ?_
      | refine LeO.bind ?_ (fun _ => ?_)
set_option maxHeartbeats 8000000 in
set_option maxRecDepth 100000 in
theorem gharrylaw15_same.calls (k : Nat) (A0 : Option Addr) (c0 : Nat) (l0 : List (S36)) (A1 : Option Addr) (c1 : Nat) (l1 : List (S36)) (r : Bool) (w : World) (hr0 : Kd.C k36 w A0 l0.length l0) (hc0 : l0.length ≤ c0) (hr1 : Kd.C k36 w A1 l1.length l1) (hc1 : l1.length ≤ c1) (h : gharrylaw15_same.f k l0 l1 = some r) :
    Calls Tryz.prog 11 #[.slice A0 l0.length c0, .slice A1 l1.length c1] w fun e w' => e = .returned (.bool r) ∧ Drawn0 w w' := by
  have hu36 := Tryz.underlying36; have HR0 := Aside0.mk hr0; have HC0 := Aside0.mk hc0; clear hr0 hc0; have HR1 := Aside0.mk hr1; have HC1 := Aside0.mk hc1; clear hr1 hc1
  have H : (if (l0.length : Int) = (l1.length : Int) then (gharrylaw15_same.l0 k l0 l1 0) else (some false)) = some r := h
  clear h
  by_cases c3 : (l0.length : Int) = (l1.length : Int)
  · rw [if_pos c3] at H
    have c3b0 : ((l0.length : Int) == (l1.length : Int)) = true := beq_iff_eq.mpr c3
    have c3b1 : ((l0.length : Int) != (l1.length : Int)) = false := bne_eq_false_iff_eq.mpr c3
    have c3b2 : (l0.length == l1.length) = true := by first | simpa using c3 | (simp at c3 ⊢; omega)
    clear c3
    have H' := Aside0.mk H
    clear H
    go_enter Tryz.func11, Tryz.ntmps11
    go_wp2
    repeat (go_quiet (fail); try go_wp2)
    go_loopg [5] k (fun kq v5 w' => ∃ (x5_1 : Int), v5 = .int .i64 x5_1 ∧ Aside0 (gharrylaw15_same.l0 kq l0 l1 x5_1 = some r) ∧ Aside0 (kq ≤ k) ∧ Drawn0 w w')
    case atStart => exact ⟨(0), (by first | rfl | (simp; done) | (simp [*]; done)), H', ⟨Nat.le_refl _⟩, by repeat (first | exact Drawn0.refl _ | apply Drawn0.step)⟩
    case round =>
      clear H'
      (try clear c1); (try clear p2); (try clear c3); (try clear c3b0); (try clear c3b1); (try clear c3b2)
      obtain ⟨x5_1, rfl, HA, HK1, ⟨m1, rfl⟩⟩ := hrel
      cases gk with
      | zero => exact absurd HA.out (by simp [gharrylaw15_same.l0])
      | succ k1 =>
        have H := HA.out; clear HA
        simp only [gharrylaw15_same.l0] at H
        by_cases c4 : x5_1 < (l0.length : Int)
        · rw [if_pos c4] at H
          have c4b0 : decide (x5_1 < (l0.length : Int)) = true := decide_eq_true c4
          clear c4
          by_cases c5 : 0 ≤ x5_1
          · rw [if_pos c5] at H
            have c5b0 : decide (0 ≤ x5_1) = true := decide_eq_true c5
            clear c5
            by_cases c6 : x5_1 < (l1.length : Int)
            · rw [if_pos c6] at H
              have c6b0 : decide (x5_1 < (l1.length : Int)) = true := decide_eq_true c6
              clear c6
              by_cases c7 : (!(((rd_T36 l0 x5_1).f0) == ((rd_T36 l1 x5_1).f0)) || (!(((rd_T36 l0 x5_1).f1) == ((rd_T36 l1 x5_1).f1)))) = true
              · rw [if_pos c7] at H
                have c7b0 : (!(((rd_T36 l0 x5_1).f0) == ((rd_T36 l1 x5_1).f0)) || (!(((rd_T36 l0 x5_1).f1) == ((rd_T36 l1 x5_1).f1)))) = true := c7
                clear c7
                obtain rfl := Option.some.inj H
                have p303 : 0 ≤ (x5_1 : Int) := of_decide_eq_true (by first | (with_reducible assumption) | assumption)
                have q303 : x5_1 < (l0.length : Int) := of_decide_eq_true (by first | (with_reducible assumption) | assumption)
                obtain ⟨ad303, e303, hx303_0, hx303_1⟩ := at_T36 HR0.out x5_1 p303 q303
                cases e303
                replace p303 := eq_true p303
                replace q303 := eq_true q303
                have p304 : 0 ≤ (x5_1 : Int) := of_decide_eq_true (by first | (with_reducible assumption) | assumption)
                have q304 : x5_1 < (l1.length : Int) := of_decide_eq_true (by first | (with_reducible assumption) | assumption)
                obtain ⟨ad304, e304, hx304_0, hx304_1⟩ := at_T36 HR1.out x5_1 p304 q304
                cases e304
                replace p304 := eq_true p304
                replace q304 := eq_true q304
                go_wp2
                repeat (go_quiet (fail); try go_wp2)
                go_ret
                exact ⟨by first | rfl | (simp; done) | (simp [*]; done), by repeat (first | exact Drawn0.refl _ | apply Drawn0.step)⟩
              · rw [if_neg c7] at H
                have c7b0 : (!(((rd_T36 l0 x5_1).f0) == ((rd_T36 l1 x5_1).f0)) || (!(((rd_T36 l0 x5_1).f1) == ((rd_T36 l1 x5_1).f1)))) = false := by simpa using c7
                clear c7
                have H' := Aside0.mk H
                clear H
                have p303 : 0 ≤ (x5_1 : Int) := of_decide_eq_true (by first | (with_reducible assumption) | assumption)
                have q303 : x5_1 < (l0.length : Int) := of_decide_eq_true (by first | (with_reducible assumption) | assumption)
                obtain ⟨ad303, e303, hx303_0, hx303_1⟩ := at_T36 HR0.out x5_1 p303 q303
                cases e303
                replace p303 := eq_true p303
                replace q303 := eq_true q303
                have p304 : 0 ≤ (x5_1 : Int) := of_decide_eq_true (by first | (with_reducible assumption) | assumption)
                have q304 : x5_1 < (l1.length : Int) := of_decide_eq_true (by first | (with_reducible assumption) | assumption)
                obtain ⟨ad304, e304, hx304_0, hx304_1⟩ := at_T36 HR1.out x5_1 p304 q304
                cases e304
                replace p304 := eq_true p304
                replace q304 := eq_true q304
                go_wp2
                repeat (go_quiet (fail); try go_wp2)
                go_roundg k1
                case measure => have := HK1.out; omega
                case rel => exact ⟨(wrap64 (x5_1 + 1)), (by first | rfl | (simp; done) | (simp [*]; done)), H', ⟨by have := HK1.out; omega⟩, by repeat (first | exact Drawn0.refl _ | apply Drawn0.step)⟩
            · rw [if_neg c6] at H
              exact absurd H (by simp)
          · rw [if_neg c5] at H
            exact absurd H (by simp)
        · rw [if_neg c4] at H
          have c4b0 : decide (x5_1 < (l0.length : Int)) = false := decide_eq_false c4
          clear c4
          obtain rfl := Option.some.inj H
          go_wp2
          repeat (go_quiet (fail); try go_wp2)
          go_ret
          exact ⟨by first | rfl | (simp; done) | (simp [*]; done), by repeat (first | exact Drawn0.refl _ | apply Drawn0.step)⟩
  · rw [if_neg c3] at H
    have c3b0 : ((l0.length : Int) == (l1.length : Int)) = false := beq_eq_false_iff_ne.mpr c3
    have c3b1 : ((l0.length : Int) != (l1.length : Int)) = true := bne_iff_ne.mpr c3
    have c3b2 : (l0.length == l1.length) = false := by first | simpa using c3 | (simp at c3 ⊢; omega)
    obtain rfl := Option.some.inj H
    go_enter Tryz.func11, Tryz.ntmps11
    go_wp2
    repeat (go_quiet (fail); try go_wp2)
    go_ret
    exact ⟨by first | rfl | (simp; done) | (simp [*]; done), by repeat (first | exact Drawn0.refl _ | apply Drawn0.step)⟩

end Go.Proofs.YteoebfiacnploaaGreat.HRec
