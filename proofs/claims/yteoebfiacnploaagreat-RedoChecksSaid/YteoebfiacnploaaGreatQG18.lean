/- Texts of this proof, put together: Fgharrylaw15drop, PureTable, MapTable, MapStep. They prove no statement. -/
import Derived.Test.YteoebfiacnploaaGreatQFtypes
import Derived.Test.YteoebfiacnploaaGreatQFgharrylaw15put
import Derived.Test.YteoebfiacnploaaGreatQPureTot
import Derived.Maps.Own
import Derived.MapViews
import Derived.Test.YteoebfiacnploaaGreatQG3
namespace Go.Proofs.YteoebfiacnploaaGreat.HRec
open Go.RowKit Go.Proofs.YteoebfiacnploaaGreat.HRec Go.Proofs.YteoebfiacnploaaGreatW.PrintWords Go.Proofs.YteoebfiacnploaaGreatW.PrintLast Go.Proofs.YteoebfiacnploaaGreatW.PrintMore
attribute [local go_sem] max2_int min2_int max_two min_two max_three min_three max_four min_four   -- for this text's walks alone
set_option linter.unusedVariables false
set_option linter.unusedSimpArgs false
/-! ### gharrylaw15_drop: function 29 -/
def gharrylaw15_drop.l0 : Nat → List (S36) → Int → List (S36) → Int → Option ((List (S36)))
  | 0, _, _, _, _ => none
  | k + 1, x0, x1, x5, x6 => if x6 < (x0.length : Int) then (if 0 ≤ x6 then (if ((rd_T36 x0 x6).f0) = x1 then (gharrylaw15_drop.l0 k x0 x1 x5 (wrap64 (x6 + 1))) else (if x5.length < 8796093022208 then (gharrylaw15_drop.l0 k x0 x1 (x5 ++ [(⟨(rd_T36 x0 x6).f0, (rd_T36 x0 x6).f1⟩ : S36)]) (wrap64 (x6 + 1))) else (none))) else (none)) else (some x5)
def gharrylaw15_drop.f (k : Nat) (l0 : List (S36)) (a1 : Int) : Option ((List (S36))) := gharrylaw15_drop.l0 k l0 a1 ([] : List (S36)) 0
theorem gharrylaw15_drop.mono_l : ∀ k, (∀ y0 y1 y2 y3, LeO (gharrylaw15_drop.l0 k y0 y1 y2 y3) (gharrylaw15_drop.l0 (k + 1) y0 y1 y2 y3))
  | 0 => fun _ _ _ _ r h => by simp [gharrylaw15_drop.l0] at h
  | k + 1 => by
    have ih0 := gharrylaw15_drop.mono_l k
    · intro y0 y1 y2 y3
      unfold gharrylaw15_drop.l0
      repeat' first
      | (with_reducible exact ih0 _ _ _ _)
      | (with_reducible exact LeO.refl _)
      | (with_reducible exact LeO.none _)
      | (with_reducible refine LeO.ite ?_ ?_)
      | (with_reducible refine LeO.bind ?_ (fun _ => ?_))
      | exact ih0 _ _ _ _
      | exact LeO.none _
      | refine LeO.ite ?_ ?_
      | refine LeO.bind ?_ (fun _ => ?_)
theorem gharrylaw15_drop.mono : ∀ a0 a1 k, LeO (gharrylaw15_drop.f k a0 a1) (gharrylaw15_drop.f (k + 1) a0 a1) := by
  intro a0 a1 k
  have ih0 := gharrylaw15_drop.mono_l k
  unfold gharrylaw15_drop.f
  repeat' first
      | (with_reducible exact ih0 _ _ _ _)
      | (with_reducible exact LeO.refl _)
      | (with_reducible exact LeO.none _)
      | (with_reducible refine LeO.ite ?_ ?_)
      | (with_reducible refine LeO.bind ?_ (fun _ => ?_))
      | exact ih0 _ _ _ _
      | exact LeO.none _
      | refine LeO.ite ?_ ?_
      | refine LeO.bind ?_ (fun _ => ?_)
set_option maxHeartbeats 8000000 in
set_option maxRecDepth 100000 in
theorem gharrylaw15_drop.calls (k : Nat) (A0 : Option Addr) (c0 : Nat) (l0 : List (S36)) (a1 : Int) (r : List (S36)) (w : World) (hr0 : Kd.C k36 w A0 l0.length l0) (hc0 : l0.length ≤ c0) (h : gharrylaw15_drop.f k l0 a1 = some r) :
    Calls Tryz.prog 29 #[.slice A0 l0.length c0, .int .i64 a1] w fun e w' => ∃ v0_ : Value, e = .returned (v0_) ∧ Kd.R k36 36 w' w.heap.size (fun _ => True) v0_ r ∧ Below w.heap.size w w' := by
  have hu36 := Tryz.underlying36; have HR0 := Aside0.mk hr0; have HC0 := Aside0.mk hc0; clear hr0 hc0; have HB := Aside0.mk (Below.refl w.heap.size w)
  have H : (gharrylaw15_drop.l0 k l0 a1 ([] : List (S36)) 0) = some r := h
  clear h
  have H' := Aside0.mk H
  clear H
  go_enter Tryz.func29, Tryz.ntmps29
  go_wp2
  go_loopg [5, 6] k (fun kq v5 v6 w' => ∃ (x5_1 : List (S36)) (x6_1 : Int), v6 = .int .i64 x6_1 ∧ Aside0 (gharrylaw15_drop.l0 kq l0 a1 x5_1 x6_1 = some r) ∧ Aside0 (kq ≤ k) ∧ Aside0 (Kd.R k36 36 w' w.heap.size (fun _ => True) v5 x5_1) ∧ Aside0 (Below w.heap.size w w'))
  case atStart => exact ⟨(([] : List (S36))), (0), (by first | rfl | (simp; done) | (simp [*]; done)), H', ⟨Nat.le_refl _⟩, ⟨by first | exact Kd.R_nil _ _ _ _ _ | exact Kd.N_nil _ _ _ _ _ | exact Kd.V_nil _ _ _ _ _ | exact Kd.Q_nil _ _ _ _ _ | exact Kd.S_nil _ _ _ _ _⟩, ⟨by repeat (first | (with_reducible first | exact HB.out | apply below_alloc | apply pw_below_drewN | apply below_drew1) | exact HB.out)⟩⟩
  case round =>
    clear H'
    (try clear c2); (try clear p2)
    obtain ⟨x5_1, x6_1, rfl, HA, HK1, HO_5, HB⟩ := hrel
    cases gk with
    | zero => exact absurd HA.out (by simp [gharrylaw15_drop.l0])
    | succ k1 =>
      have H := HA.out; clear HA
      simp only [gharrylaw15_drop.l0] at H
      by_cases c3 : x6_1 < (l0.length : Int)
      · rw [if_pos c3] at H
        have c3b0 : decide (x6_1 < (l0.length : Int)) = true := decide_eq_true c3
        clear c3
        by_cases c4 : 0 ≤ x6_1
        · rw [if_pos c4] at H
          have c4b0 : decide (0 ≤ x6_1) = true := decide_eq_true c4
          clear c4
          by_cases c5 : ((rd_T36 l0 x6_1).f0) = a1
          · rw [if_pos c5] at H
            have c5b0 : (((rd_T36 l0 x6_1).f0) == a1) = true := beq_iff_eq.mpr c5
            have c5b1 : (((rd_T36 l0 x6_1).f0) != a1) = false := bne_eq_false_iff_eq.mpr c5
            clear c5
            have H' := Aside0.mk H
            clear H
            have p330 : 0 ≤ (x6_1 : Int) := of_decide_eq_true (by first | (with_reducible assumption) | assumption)
            have q330 : x6_1 < (l0.length : Int) := of_decide_eq_true (by first | (with_reducible assumption) | assumption)
            obtain ⟨ad330, e330, hx330_0, hx330_1⟩ := at_T36 HR0.out x6_1 p330 q330
            cases e330
            replace hx330_0 := (HB.out.cell (World.block_lt_of_cell? w _ hx330_0)).trans hx330_0
            replace hx330_1 := (HB.out.cell (World.block_lt_of_cell? w _ hx330_1)).trans hx330_1
            replace p330 := eq_true p330
            replace q330 := eq_true q330
            go_wp2
            go_roundg k1
            case measure => have := HK1.out; omega
            case rel => exact ⟨(x5_1), (wrap64 (x6_1 + 1)), (by first | rfl | (simp; done) | (simp [*]; done)), H', ⟨by have := HK1.out; omega⟩, ⟨by (with_reducible repeat (first | apply Kd.R_alloc | apply Kd.R_drewN | apply Kd.R_drew)); exact HO_5.out⟩, ⟨by repeat (first | (with_reducible first | exact HB.out | apply below_alloc | apply pw_below_drewN | apply below_drew1) | exact HB.out)⟩⟩
          · rw [if_neg c5] at H
            have c5b0 : (((rd_T36 l0 x6_1).f0) == a1) = false := beq_eq_false_iff_ne.mpr c5
            have c5b1 : (((rd_T36 l0 x6_1).f0) != a1) = true := bne_iff_ne.mpr c5
            by_cases c6 : x5_1.length < 8796093022208
            · rw [if_pos c6] at H
              have LMc6 := Aside0.mk c6; clear c6
              obtain ⟨y332, hy332⟩ : ∃ y_ : List (S36), y_ = (x5_1 ++ [(⟨(rd_T36 l0 x6_1).f0, (rd_T36 l0 x6_1).f1⟩ : S36)]) := ⟨_, rfl⟩
              replace H : (gharrylaw15_drop.l0 k1 l0 a1 y332 (wrap64 (x6_1 + 1))) = some r := by first | (rw [hy332]; with_reducible exact H) | (have H2_ := (Option.bind_some _ _).symm.trans H; rw [hy332]; with_reducible exact H2_) | (have H2_ := (Option.bind_some _ _).symm.trans H; with_reducible exact H2_) | with_reducible exact H | (rw [hy332]; exact H) | exact H
              have Ny332 := Aside0.mk hy332; clear hy332
              have H' := Aside0.mk H
              clear H
              have p330 : 0 ≤ (x6_1 : Int) := of_decide_eq_true (by first | (with_reducible assumption) | assumption)
              have q330 : x6_1 < (l0.length : Int) := of_decide_eq_true (by first | (with_reducible assumption) | assumption)
              obtain ⟨ad330, e330, hx330_0, hx330_1⟩ := at_T36 HR0.out x6_1 p330 q330
              cases e330
              replace hx330_0 := (HB.out.cell (World.block_lt_of_cell? w _ hx330_0)).trans hx330_0
              replace hx330_1 := (HB.out.cell (World.block_lt_of_cell? w _ hx330_1)).trans hx330_1
              replace p330 := eq_true p330
              replace q330 := eq_true q330
              have p331 : 0 ≤ (x6_1 : Int) := of_decide_eq_true (by first | (with_reducible assumption) | assumption)
              have q331 : x6_1 < (l0.length : Int) := of_decide_eq_true (by first | (with_reducible assumption) | assumption)
              obtain ⟨ad331, e331, hx331_0, hx331_1⟩ := at_T36 HR0.out x6_1 p331 q331
              obtain rfl : ad330 = ad331 := (by injection e331)
              replace hx331_0 := (HB.out.cell (World.block_lt_of_cell? w _ hx331_0)).trans hx331_0
              replace hx331_1 := (HB.out.cell (World.block_lt_of_cell? w _ hx331_1)).trans hx331_1
              replace p331 := eq_true p331
              replace q331 := eq_true q331
              go_wp2_with (first | ((with_reducible refine gate_builtin (b := .append) (xs := #[.tmp 20, .tmp 25]) rfl ?_); at_builtin; refine Kd.R_append k36 (w0 := w) w.heap.size rfl (.tmp 20) (.tmp 25) 29 36 (.agg #[(.int .i64 0), (.int .i64 0)]) 16 rfl Tryz.underlying29 info36 rfl (by decide) (by omega) u5 x5_1 (⟨(rd_T36 l0 x6_1).f0, (rd_T36 l0 x6_1).f1⟩ : S36) [.int .i64 ((rd_T36 l0 x6_1).f0), .int .i64 ((rd_T36 l0 x6_1).f1)] (fun _ => True) (fun _ => False) rfl rfl ?aP (fun _ hk => hk.elim) ?aF ?aO ?aB ?aS ?aL ?_; (case aP => exact k36_mkM _ _ _ (⟨(rd_T36 l0 x6_1).f0, (rd_T36 l0 x6_1).f1⟩ : S36)); (case aB => exact (by repeat (first | (with_reducible first | exact HB.out | apply below_alloc | apply pw_below_drewN | apply below_drew1) | exact HB.out))); (case aF => exact (fun _ _ => trivial)); (case aO => exact (by (with_reducible repeat (first | apply Kd.R_alloc | apply Kd.R_drewN | apply Kd.R_drew)); exact HO_5.out)); (case aS => exact (below_size (by repeat (first | (with_reducible first | exact HB.out | apply below_alloc | apply pw_below_drewN | apply below_drew1) | exact HB.out)))); (case aL => have := LMc6.out; omega); intro v333 w7 ho hb hg hat; rw [← Ny332.out] at ho; have n0_ := Aside0.mk (hb); have n1_ := Aside0.mk (ho); clear HB; clear HO_5; have HB := n0_; have HO334 := n1_; clear n0_ n1_; clear ho hb hg hat))
              go_roundg k1
              case measure => have := HK1.out; omega
              case rel => exact ⟨(y332), (wrap64 (x6_1 + 1)), (by first | rfl | (simp; done) | (simp [*]; done)), H', ⟨by have := HK1.out; omega⟩, ⟨by (with_reducible repeat (first | apply Kd.R_alloc | apply Kd.R_drewN | apply Kd.R_drew)); exact HO334.out⟩, ⟨by repeat (first | (with_reducible first | exact HB.out | apply below_alloc | apply pw_below_drewN | apply below_drew1) | exact HB.out)⟩⟩
            · rw [if_neg c6] at H
              exact absurd H (by simp)
        · rw [if_neg c4] at H
          exact absurd H (by simp)
      · rw [if_neg c3] at H
        have c3b0 : decide (x6_1 < (l0.length : Int)) = false := decide_eq_false c3
        clear c3
        obtain rfl := Option.some.inj H
        go_wp2
        go_ret
        exact ⟨_, by first | rfl | (simp [errW_none, errW_some] <;> rfl) | (simp [*, errW_none, errW_some] <;> rfl), by (with_reducible repeat (first | apply Kd.R_alloc | apply Kd.R_drewN | apply Kd.R_drew)); exact HO_5.out, by repeat (first | (with_reducible first | exact HB.out | apply below_alloc | apply pw_below_drewN | apply below_drew1) | exact HB.out)⟩

end Go.Proofs.YteoebfiacnploaaGreat.HRec
namespace Go.Proofs.YteoebfiacnploaaGreat.HRec
open Go.RowKit Go.Proofs.YteoebfiacnploaaGreatW.PrintWords Go.Proofs.YteoebfiacnploaaGreatW.PrintLast Go.Proofs.YteoebfiacnploaaGreatW.PrintMore
set_option linter.unusedVariables false
set_option linter.unusedSimpArgs false
/-- A table without a transaction. -/
def dropS (l : List S36) (t : Int) : List S36 := l.filter (fun x => decide (x.f0 ≠ t))
/-- A table in which a transaction has a last record. -/
def putS : List S36 → Int → Int → List S36
  | [], t, a => [⟨t, a⟩]
  | x :: r, t, a => if x.f0 ≥ t then ⟨t, a⟩ :: dropS (x :: r) t else x :: putS r t a
theorem rd36 (l : List S36) (i : Nat) (h : i < l.length) : rd_T36 l (i : Int) = l[i] := by
  unfold rd_T36
  rw [Int.toNat_natCast, List.getD_eq_getElem?_getD, List.getElem?_eq_getElem h]
  rfl
theorem drop_l_val (l : List S36) (t : Int) (hl : l.length ≤ 1000000) : ∀ (f k i : Nat) (acc : List S36), i ≤ l.length → l.length - i ≤ f → f + 1 ≤ k → acc.length ≤ i → gharrylaw15_drop.l0 k l t acc (i : Int) = some (acc ++ dropS (l.drop i) t)
  | f, 0, _, _, _, _, hk, _ => absurd hk (by omega)
  | f, k + 1, i, acc, hi, hf, hk, ha => by
    unfold gharrylaw15_drop.l0
    by_cases hc : i < l.length
    · obtain ⟨f, rfl⟩ : ∃ m, f = m + 1 := ⟨f - 1, by omega⟩
      have hd : l.drop i = l[i] :: l.drop (i + 1) := List.drop_eq_getElem_cons hc
      have hw : wrap64 ((i : Int) + 1) = ((i + 1 : Nat) : Int) := by rw [w64 (by omega) (by omega)]; omega
      rw [if_pos (by omega), if_pos (by omega), rd36 l i hc, hw, hd]
      unfold dropS
      by_cases he : l[i].f0 = t
      · rw [if_pos he, List.filter_cons_of_neg (by simp [he])]
        exact drop_l_val l t hl f k (i + 1) acc (by omega) (by omega) (by omega) (by omega)
      · rw [if_neg he, if_pos (by omega), List.filter_cons_of_pos (by simp [he])]
        have := drop_l_val l t hl f k (i + 1) (acc ++ [l[i]]) (by omega) (by omega) (by omega) (by rw [List.length_append, List.length_singleton]; omega)
        rw [List.append_assoc] at this
        exact this
    · obtain rfl : i = l.length := by omega
      rw [if_neg (by omega), List.drop_length]
      unfold dropS
      rw [List.filter_nil, List.append_nil]
theorem drop_val (l : List S36) (t : Int) (k : Nat) (hl : l.length ≤ 1000000) (hk : l.length + 1 ≤ k) : gharrylaw15_drop.f k l t = some (dropS l t) := by
  have := drop_l_val l t hl l.length k 0 [] (by omega) (by omega) hk (by simp)
  rw [List.drop_zero, List.nil_append] at this
  exact this
/-- Behind the place where it was put, a transaction's elder entries are left out. -/
theorem put_l_true (l : List S36) (t a : Int) (hl : l.length ≤ 1000000) : ∀ (f k i : Nat) (acc : List S36), i ≤ l.length → l.length - i ≤ f → 2 * f + 2 ≤ k → acc.length ≤ i + 1 → gharrylaw15_put.l0 k l t a acc true (i : Int) = some (acc ++ dropS (l.drop i) t)
  | f, 0, _, _, _, _, hk, _ => absurd hk (by omega)
  | f, 1, _, _, _, _, hk, _ => absurd hk (by omega)
  | f, k + 2, i, acc, hi, hf, hk, ha => by
    unfold gharrylaw15_put.l0
    by_cases hc : i < l.length
    · obtain ⟨f, rfl⟩ : ∃ m, f = m + 1 := ⟨f - 1, by omega⟩
      have hd : l.drop i = l[i] :: l.drop (i + 1) := List.drop_eq_getElem_cons hc
      have hw : wrap64 ((i : Int) + 1) = ((i + 1 : Nat) : Int) := by rw [w64 (by omega) (by omega)]; omega
      rw [if_pos (by omega), if_pos rfl]
      unfold gharrylaw15_put.j1
      rw [if_neg (by decide), if_pos (by omega), if_pos (by omega), rd36 l i hc, hw, hd]
      unfold dropS
      by_cases he : l[i].f0 = t
      · rw [if_pos he, List.filter_cons_of_neg (by simp [he])]
        exact put_l_true l t a hl f k (i + 1) acc (by omega) (by omega) (by omega) (by omega)
      · rw [if_neg he, if_pos (by omega), List.filter_cons_of_pos (by simp [he])]
        have := put_l_true l t a hl f k (i + 1) (acc ++ [l[i]]) (by omega) (by omega) (by omega) (by rw [List.length_append, List.length_singleton]; omega)
        rw [List.append_assoc] at this
        exact this
    · obtain rfl : i = l.length := by omega
      rw [if_neg (by omega), if_pos rfl, List.drop_length]
      unfold dropS
      rw [List.filter_nil, List.append_nil]
theorem put_l_false (l : List S36) (t a : Int) (hl : l.length ≤ 1000000) : ∀ (f k i : Nat) (acc : List S36), i ≤ l.length → l.length - i ≤ f → 2 * f + 2 ≤ k → acc.length ≤ i → gharrylaw15_put.l0 k l t a acc false (i : Int) = some (acc ++ putS (l.drop i) t a)
  | f, 0, _, _, _, _, hk, _ => absurd hk (by omega)
  | f, 1, _, _, _, _, hk, _ => absurd hk (by omega)
  | f, k + 2, i, acc, hi, hf, hk, ha => by
    unfold gharrylaw15_put.l0
    by_cases hc : i < l.length
    · obtain ⟨f, rfl⟩ : ∃ m, f = m + 1 := ⟨f - 1, by omega⟩
      have hd : l.drop i = l[i] :: l.drop (i + 1) := List.drop_eq_getElem_cons hc
      have hw : wrap64 ((i : Int) + 1) = ((i + 1 : Nat) : Int) := by rw [w64 (by omega) (by omega)]; omega
      rw [if_pos (by omega), if_neg (by decide), if_pos (by omega), rd36 l i hc, hd]
      unfold gharrylaw15_put.j1 putS
      by_cases hg : l[i].f0 ≥ t
      · rw [decide_eq_true hg, if_pos rfl, if_pos (by omega), Option.bind_some, if_pos (by omega), if_pos (by omega), rd36 l i hc, hw, if_pos hg]
        unfold dropS
        by_cases he : l[i].f0 = t
        · rw [if_pos he, List.filter_cons_of_neg (by simp [he])]
          have := put_l_true l t a hl f k (i + 1) (acc ++ [⟨t, a⟩]) (by omega) (by omega) (by omega) (by rw [List.length_append, List.length_singleton]; omega)
          rw [List.append_assoc] at this
          exact this
        · rw [if_neg he, if_pos (by rw [List.length_append, List.length_singleton]; omega), List.filter_cons_of_pos (by simp [he])]
          have := put_l_true l t a hl f k (i + 1) ((acc ++ [⟨t, a⟩]) ++ [l[i]]) (by omega) (by omega) (by omega) (by simp only [List.length_append, List.length_singleton]; omega)
          refine this.trans ?_
          simp only [List.append_assoc, List.singleton_append, List.cons_append, List.nil_append]
          rfl
      · have hne : ¬ l[i].f0 = t := by omega
        rw [decide_eq_false hg, if_neg (by decide), if_pos (by omega), if_pos (by omega), rd36 l i hc, hw, if_neg hne, if_pos (by omega), if_neg hg]
        have := put_l_false l t a hl f k (i + 1) (acc ++ [l[i]]) (by omega) (by omega) (by omega) (by rw [List.length_append, List.length_singleton]; omega)
        rw [List.append_assoc] at this
        exact this
    · obtain rfl : i = l.length := by omega
      rw [if_neg (by omega), if_neg (by decide), if_pos (by omega), List.drop_length]
      rfl
theorem put_val36 (l : List S36) (t a : Int) (k : Nat) (hl : l.length ≤ 1000000) (hk : 2 * l.length + 2 ≤ k) : gharrylaw15_put.f k l t a = some (putS l t a) := by
  have := put_l_false l t a hl l.length k 0 [] (by omega) (by omega) hk (by simp)
  rw [List.drop_zero, List.nil_append] at this
  exact this
end Go.Proofs.YteoebfiacnploaaGreat.HRec
namespace Go.Proofs.YteoebfiacnploaaGreat.HRec
open Go.RowKit Go.Proofs.YteoebfiacnploaaGreatW.PrintWords Go.Proofs.YteoebfiacnploaaGreatW.PrintLast Go.Proofs.YteoebfiacnploaaGreatW.PrintMore
set_option linter.unusedVariables false
set_option linter.unusedSimpArgs false
/-- A table's entries as a map's. -/
def tblD (l : List S36) : List (Lit × DataW Unit) := l.map fun x => (Lit.int .i64 x.f0, DataW.lit (Lit.int .i64 x.f1))
/-- The transactions rise. -/
def Rising (l : List S36) : Prop := l.Pairwise (fun x y => x.f0 < y.f0)
theorem same_key (a b : Int) : Lit.sameKey (.int .i64 a) (.int .i64 b) = decide (a = b) := by
  show decide (IntKind.i64 = IntKind.i64 ∧ a = b) = decide (a = b)
  simp
theorem del_tbl (l : List S36) (t : Int) : (DataW.map (tblD l)).del (.int .i64 t) = .map (tblD (dropS l t)) := by
  show DataW.map ((tblD l).filter fun p => !p.1.sameKey (.int .i64 t)) = _
  congr 1
  unfold tblD dropS
  rw [List.filter_map]
  congr 1
  apply List.filter_congr
  intro x _
  show (!Lit.sameKey (.int .i64 x.f0) (.int .i64 t)) = decide (x.f0 ≠ t)
  rw [same_key]
  by_cases h : x.f0 = t <;> simp [h]
theorem insert_tbl (t a : Int) : ∀ l : List S36, Rising l → (∀ x ∈ l, x.f0 ≠ t) → DataW.insert (Lit.int .i64 t, DataW.lit (Lit.int .i64 a)) (tblD l) = tblD (putS l t a)
  | [], _, _ => rfl
  | x :: r, h, hn => by
    have hx := hn x List.mem_cons_self
    obtain ⟨h1, h2⟩ := List.pairwise_cons.mp h
    show DataW.insert _ ((Lit.int .i64 x.f0, DataW.lit (Lit.int .i64 x.f1)) :: tblD r) = _
    unfold DataW.insert putS
    by_cases hg : x.f0 ≥ t
    · have hb : Lit.before (.int .i64 t) (.int .i64 x.f0) = true := decide_eq_true (by omega)
      have hd : dropS (x :: r) t = x :: r := by
        unfold dropS
        rw [List.filter_eq_self]
        intro y hy
        exact decide_eq_true (hn y hy)
      rw [if_pos hg, hd]
      first
        | (rw [if_pos hb]; rfl)
        | (simp only [hb]; rfl)
        | (simp [hb, tblD])
    · have hb : Lit.before (.int .i64 t) (.int .i64 x.f0) = false := decide_eq_false (by omega)
      have ih := insert_tbl t a r h2 (fun y hy => hn y (List.mem_cons_of_mem _ hy))
      rw [if_neg hg]
      first
        | (rw [if_neg (by rw [hb]; decide), ih]; rfl)
        | (simp only [hb]; rw [ih]; rfl)
        | (simp [hb, ih, tblD])
theorem rising_drop {l : List S36} (h : Rising l) (t : Int) : Rising (dropS l t) := List.Pairwise.filter _ h
theorem drop_self {l : List S36} {t : Int} (h : ∀ x ∈ l, x.f0 ≠ t) : dropS l t = l := by
  unfold dropS
  rw [List.filter_eq_self]
  exact fun y hy => decide_eq_true (h y hy)
theorem putS_above (t a : Int) (l : List S36) (h : ∀ x ∈ l, t < x.f0) : putS l t a = ⟨t, a⟩ :: l := by
  match l, h with
  | [], _ => rfl
  | x :: r, h =>
    show (if x.f0 ≥ t then ⟨t, a⟩ :: dropS (x :: r) t else x :: putS r t a) = _
    have := h x List.mem_cons_self
    rw [if_pos (by omega), drop_self (fun y hy => by have := h y hy; omega)]
theorem putS_drop (t a : Int) : ∀ l : List S36, Rising l → putS (dropS l t) t a = putS l t a
  | [], _ => rfl
  | x :: r, h => by
    obtain ⟨h1, h2⟩ := List.pairwise_cons.mp h
    have ih := putS_drop t a r h2
    by_cases he : x.f0 = t
    · have hd : dropS (x :: r) t = dropS r t := List.filter_cons_of_neg (by simp [he])
      have hr : ∀ y ∈ r, t < y.f0 := fun y hy => by have := h1 y hy; omega
      have h1' : putS (x :: r) t a = ⟨t, a⟩ :: dropS r t := by
        show (if x.f0 ≥ t then ⟨t, a⟩ :: dropS (x :: r) t else x :: putS r t a) = _
        rw [if_pos (by omega), hd]
      rw [hd, h1', drop_self (fun y hy => by have := hr y hy; omega), putS_above t a r hr]
    · have hd : dropS (x :: r) t = x :: dropS r t := List.filter_cons_of_pos (by simp [he])
      rw [hd]
      show (if x.f0 ≥ t then ⟨t, a⟩ :: dropS (x :: dropS r t) t else x :: putS (dropS r t) t a) = (if x.f0 ≥ t then ⟨t, a⟩ :: dropS (x :: r) t else x :: putS r t a)
      rw [ih]
      by_cases hg : x.f0 ≥ t
      · rw [if_pos hg, if_pos hg]
        unfold dropS
        rw [List.filter_cons_of_pos (by simp [he]), List.filter_cons_of_pos (by simp [he]), List.filter_filter]
        simp
      · rw [if_neg hg, if_neg hg]
/-- A store into the map is the table's put. -/
theorem put_tbl (l : List S36) (t a : Int) (h : Rising l) : (DataW.map (tblD l)).put (.int .i64 t) (.lit (.int .i64 a)) = .map (tblD (putS l t a)) := by
  have hd := del_tbl l t
  have hd : DataW.map ((tblD l).filter fun p => !p.1.sameKey (.int .i64 t)) = .map (tblD (dropS l t)) := hd
  injection hd with hd
  show DataW.map (DataW.insert _ ((tblD l).filter fun p => !p.1.sameKey (.int .i64 t))) = _
  rw [hd, insert_tbl t a (dropS l t) (rising_drop h t) (fun x hx => of_decide_eq_true (List.mem_filter.mp hx).2), putS_drop t a l h]
theorem putS_mem (t a : Int) : ∀ (l : List S36) (y : S36), y ∈ putS l t a → y = ⟨t, a⟩ ∨ y ∈ l
  | [], y, h => by
    have : y ∈ [(⟨t, a⟩ : S36)] := h
    exact .inl (List.mem_singleton.mp this)
  | x :: r, y, h => by
    have h : y ∈ (if x.f0 ≥ t then ⟨t, a⟩ :: dropS (x :: r) t else x :: putS r t a) := h
    by_cases hg : x.f0 ≥ t
    · rw [if_pos hg] at h
      rcases List.mem_cons.mp h with h | h
      · exact .inl h
      · exact .inr (List.mem_filter.mp h).1
    · rw [if_neg hg] at h
      rcases List.mem_cons.mp h with h | h
      · exact .inr (h ▸ List.mem_cons_self)
      · rcases putS_mem t a r y h with h | h
        · exact .inl h
        · exact .inr (List.mem_cons_of_mem _ h)
theorem rising_put (t a : Int) : ∀ l : List S36, Rising l → Rising (putS l t a)
  | [], _ => List.pairwise_singleton _ _
  | x :: r, h => by
    obtain ⟨h1, h2⟩ := List.pairwise_cons.mp h
    show Rising (if x.f0 ≥ t then ⟨t, a⟩ :: dropS (x :: r) t else x :: putS r t a)
    by_cases hg : x.f0 ≥ t
    · rw [if_pos hg]
      refine List.pairwise_cons.mpr ⟨fun y hy => ?_, rising_drop h t⟩
      obtain ⟨hm, hne⟩ := List.mem_filter.mp hy
      have hne : y.f0 ≠ t := of_decide_eq_true hne
      show t < y.f0
      rcases List.mem_cons.mp hm with rfl | hm
      · omega
      · have := h1 y hm
        omega
    · rw [if_neg hg]
      refine List.pairwise_cons.mpr ⟨fun y hy => ?_, rising_put t a r h2⟩
      rcases putS_mem t a r y hy with rfl | hm
      · show x.f0 < t
        omega
      · exact h1 y hm
end Go.Proofs.YteoebfiacnploaaGreat.HRec
namespace Go.Proofs.YteoebfiacnploaaGreat.HRec
open Go.RowKit Go.Proofs.YteoebfiacnploaaGreatW.PrintWords Go.Proofs.YteoebfiacnploaaGreatW.PrintLast Go.Proofs.YteoebfiacnploaaGreatW.PrintMore
open Go.ChangeMaps (setBlock)
set_option linter.unusedVariables false
set_option linter.unusedSimpArgs false
/-- Block m is a map of at most n entries that reads as a table. -/
def TblAt (W : World) (m n : Nat) (l : List S36) : Prop := W.ownsMap Tryz.prog 3 (plainElem (H := Unit) Tryz.prog 3) m n (.map (tblD l))
theorem wf64 {a : Int} (h0 : 0 ≤ a) (h1 : a < 9223372036854775808) : (Lit.int .i64 a).wf = true := by
  have hw : ∀ a : Int, (Lit.int .i64 a).wf = (decide (IntKind.i64.min ≤ a) && decide (a ≤ IntKind.i64.max)) := fun a => rfl
  rw [hw]
  have e1 : IntKind.i64.min = -9223372036854775808 := by kernel_rfl
  have e2 : IntKind.i64.max = 9223372036854775807 := by kernel_rfl
  rw [e1, e2, decide_eq_true (by omega), decide_eq_true (by omega)]
  rfl
theorem TblAt.put {W : World} {m n : Nat} {l : List S36} {t a : Int} (h : TblAt W m n l) (hr : Rising l) (ht0 : 0 ≤ t) (ht1 : t < 9223372036854775808) (ha0 : 0 ≤ a) (ha1 : a < 9223372036854775808) (hn : n < maxLen) :
    ∃ W', (Instr.mapUpdate 63 (.map (some m)) (.int .i64 t) (.int .i64 a)).run Tryz.prog W = .ok () W' ∧ TblAt W' m (n + 1) (putS l t a) ∧ W.grownBy W' (some m) := by
  obtain ⟨W', h1, h2, h3⟩ := World.ownsMap.update h (Maps.int_keyed Tryz.underlying3) Tryz.underlying63 hn (Maps.keyOf_int_mk Tryz.underlying3 (wf64 ht0 ht1)) (plainElem_int Tryz.underlying3 (wf64 ha0 ha1))
  rw [put_tbl l t a hr] at h2
  exact ⟨W', h1, h2, h3⟩
theorem TblAt.del {W : World} {m n : Nat} {l : List S36} {t : Int} (h : TblAt W m n l) (ht0 : 0 ≤ t) (ht1 : t < 9223372036854775808) :
    ∃ W', (Builtin.delete_ #[63, 3] 0 #[.map (some m), .int .i64 t]).run Tryz.prog W = .ok (.tuple #[]) W' ∧ TblAt W' m n (dropS l t) ∧ W.grownBy W' (some m) := by
  obtain ⟨es, clock, hb, F, hs, hD⟩ := h
  obtain ⟨es', h1, h2, h3, h4, _⟩ := Maps.fit_drop (ty := 0) (Maps.int_keyed Tryz.underlying3) Tryz.underlying63 hb F (Maps.keyOf_int_mk Tryz.underlying3 (wf64 ht0 ht1))
  have hlt : m < W.heap.size := (Array.getElem?_eq_some_iff.1 hb).1
  refine ⟨_, h1, ⟨es', clock, block_same _ hlt, h2, Nat.le_trans h3 hs, ?_⟩, ⟨rfl, rfl, rfl, by rw [block_size]; exact Nat.le_refl _, fun i _ hi => block_other _ (fun e => hi (by rw [e]))⟩⟩
  rw [h4, ← del_tbl l t, hD]
  rfl
theorem TblAt.kept {W W' : World} {m n : Nat} {l : List S36} (h : TblAt W m n l) (hb : Below W.heap.size W W') : TblAt W' m n l := by
  obtain ⟨es, clock, hm, F, hs, hD⟩ := h
  exact ⟨es, clock, (hb.block m (Array.getElem?_eq_some_iff.1 hm).1).trans hm, F, hs, hD⟩
end Go.Proofs.YteoebfiacnploaaGreat.HRec
