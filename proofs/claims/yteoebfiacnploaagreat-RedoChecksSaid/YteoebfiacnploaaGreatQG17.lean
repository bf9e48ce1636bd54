/- Texts of this proof, put together: Fgharrylaw15awake, PureSame. They prove no statement. -/
import Derived.Test.YteoebfiacnploaaGreatQFtypes
import Derived.Test.YteoebfiacnploaaGreatQG16
import Derived.Test.YteoebfiacnploaaGreatQPureTot
namespace Go.Proofs.YteoebfiacnploaaGreat.HRec
open Go.RowKit Go.Proofs.YteoebfiacnploaaGreat.HRec Go.Proofs.YteoebfiacnploaaGreatW.PrintWords Go.Proofs.YteoebfiacnploaaGreatW.PrintLast Go.Proofs.YteoebfiacnploaaGreatW.PrintMore
attribute [local go_sem] max2_int min2_int max_two min_two max_three min_three max_four min_four   -- for this text's walks alone
set_option linter.unusedVariables false
set_option linter.unusedSimpArgs false
attribute [local go_sem high] eqA36
/-! ### gharrylaw15_awake: function 13 -/
def gharrylaw15_awake.f (k : Nat)  : Option (Bool) := (redo_Part.f k (([(⟨1, 1⟩ : S34), (⟨3, 50⟩ : S34)] : List (S34))) 2 90).bind fun bt311 => (if bt311.1 = 1 then (some (bt311.2 == 50)) else (some false))
theorem gharrylaw15_awake.mono : ∀ k, LeO (gharrylaw15_awake.f k ) (gharrylaw15_awake.f (k + 1) ) := by
  intro  k
  unfold gharrylaw15_awake.f
  repeat' first
      | (with_reducible exact redo_Part.mono _ _ _ _)
      | (with_reducible exact LeO.refl _)
      | (with_reducible exact LeO.none _)
      | (with_reducible refine LeO.ite ?_ ?_)
      | (with_reducible refine LeO.bind ?_ (fun _ => ?_))
      | exact redo_Part.mono _ _ _ _
      | exact LeO.none _
      | refine LeO.ite ?_ ?_
      | refine LeO.bind ?_ (fun _ => ?_)
set_option maxHeartbeats 8000000 in
set_option maxRecDepth 100000 in
theorem gharrylaw15_awake.calls (k : Nat)  (r : Bool) (w : World) (h : gharrylaw15_awake.f k  = some r) :
    Calls Tryz.prog 13 #[] w fun e w' => e = .returned (.bool r) ∧ Below w.heap.size w w' := by
  have hu34 := Tryz.underlying34; have HB := Aside0.mk (Below.refl w.heap.size w)
  have H : ((redo_Part.f k (([(⟨1, 1⟩ : S34), (⟨3, 50⟩ : S34)] : List (S34))) 2 90).bind fun bt311 => (if bt311.1 = 1 then (some (bt311.2 == 50)) else (some false))) = some r := h
  clear h
  obtain ⟨y308, hy308⟩ : ∃ y_ : List (S34), y_ = (([(⟨1, 1⟩ : S34), (⟨3, 50⟩ : S34)] : List (S34))) := ⟨_, rfl⟩
  replace H : ((redo_Part.f k y308 2 90).bind fun bt311 => (if bt311.1 = 1 then (some (bt311.2 == 50)) else (some false))) = some r := by first | (rw [hy308]; with_reducible exact H) | (have H2_ := (Option.bind_some _ _).symm.trans H; rw [hy308]; with_reducible exact H2_) | (have H2_ := (Option.bind_some _ _).symm.trans H; with_reducible exact H2_) | with_reducible exact H | (rw [hy308]; exact H) | exact H
  have Ny308 := Aside0.mk hy308; clear hy308
  replace H := Option.bind_eq_some_iff.mp H
  obtain ⟨⟨t311, t312⟩, A10, H⟩ := H
  replace H : (if t311 = 1 then (some (t312 == 50)) else (some false)) = some r := H
  have A1 := Aside0.mk A10; clear A10
  by_cases c2 : t311 = 1
  · rw [if_pos c2] at H
    have c2b0 : (t311 == 1) = true := beq_iff_eq.mpr c2
    have c2b1 : (t311 != 1) = false := bne_eq_false_iff_eq.mpr c2
    clear c2
    obtain rfl := Option.some.inj H
    go_enter Tryz.func13, Tryz.ntmps13
    go_wp2_with (first | ((with_reducible refine gate_dst (N := 6) rfl ?_); refine Kd.R_lit k34 _ 34 ?hg (N := 6) ?hd (xs := ([(⟨1, 1⟩ : S34), (⟨3, 50⟩ : S34)] : List (S34))) (inner := [.int .i64 1, .int .i64 1, .int .i64 3, .int .i64 50]) (ok := fun _ => True) (okp := fun _ => True) ?hr ?hp (fun _ hk => hk) trivial (Below.refl _ _) (Nat.le_refl _) (by simp) ?_; (case hd => rfl); (case hg => rfl); (case hr => first | (go_simp; done) | (go_simp; rfl)); (case hp => exact (Reps.c2 (show Kd.M k34 _ _ _ (⟨1, 1⟩ : S34) [.int .i64 1, .int .i64 1] from (k34_mkM _ _ _ (⟨1, 1⟩ : S34) )) (Reps.c2 (show Kd.M k34 _ _ _ (⟨3, 50⟩ : S34) [.int .i64 3, .int .i64 50] from (k34_mkM _ _ _ (⟨3, 50⟩ : S34) )) (Reps.none _ _)))); intro v309 w3 ho4 hb hg_ hnew_; clear hg_ hnew_; (first | rw [← Ny308.out] at ho4 | (simp only [Int.reduceToNat] at ho4; rw [← Ny308.out] at ho4)); have n0_ := Aside0.mk (Kd.R_lower ho4 (below_size (by repeat (first | (with_reducible first | exact HB.out | apply below_alloc | apply pw_below_drewN | apply below_drew1) | exact HB.out)))); have n1_ := Aside0.mk (below_step (by repeat (first | (with_reducible first | exact HB.out | apply below_alloc | apply pw_below_drewN | apply below_drew1) | exact HB.out)) hb); clear HB; have HO310 := n0_; have HB := n1_; clear n0_ n1_; clear hb ho4; obtain ⟨Ao5, co5, eo5⟩ := Kd.R_slice HO310.out; subst eo5) | ((with_reducible refine gate_callee (f := 22) rfl ?_); refine goesL_ (some 7) rfl rfl Tryz.func22 (by kernel_rfl) rfl #[.slice Ao5 y308.length co5, .int .i64 2, .int .i64 90] rfl (by (try simp only [List.map_toArray, List.map_cons, List.map_nil]); first | done | rfl | (simp only [List.length_drop, List.length_take]; rfl)) ?_; (with_reducible refine (redo_Part.calls k _ _ y308 2 90 t311 t312 _ ?side1 ?side2 A1.out).mono ?_); (case side1 => repeat (first | exact (Kd.R_reads' HO310.out).2.2 | (with_reducible refine Kd.C_alloc ?_ _) | (with_reducible refine Kd.C_drewN ?_ _) | (with_reducible refine Kd.C_drew ?_))); (case side2 => exact (Kd.R_reads' HO310.out).2.1); rintro e w6 ⟨rfl, hb⟩; refine ⟨_, rfl, ?_⟩; have n0_ := Aside0.mk (Kd.R_below (by (with_reducible repeat (first | apply Kd.R_alloc | apply Kd.R_drewN | apply Kd.R_drew)); exact HO310.out) hb); have n1_ := Aside0.mk (below_step (by repeat (first | (with_reducible first | exact HB.out | apply below_alloc | apply pw_below_drewN | apply below_drew1) | exact HB.out)) hb); clear HO310; clear HB; have HO310 := n0_; have HB := n1_; clear n0_ n1_; (try clear hb); (try clear hb2); (try clear hk); (try clear hi)))
    go_ret
    exact ⟨by first | rfl | (simp [errW_none, errW_some] <;> rfl) | (simp [*, errW_none, errW_some] <;> rfl), by repeat (first | (with_reducible first | exact HB.out | apply below_alloc | apply pw_below_drewN | apply below_drew1) | exact HB.out)⟩
  · rw [if_neg c2] at H
    have c2b0 : (t311 == 1) = false := beq_eq_false_iff_ne.mpr c2
    have c2b1 : (t311 != 1) = true := bne_iff_ne.mpr c2
    obtain rfl := Option.some.inj H
    go_enter Tryz.func13, Tryz.ntmps13
    go_wp2_with (first | ((with_reducible refine gate_dst (N := 6) rfl ?_); refine Kd.R_lit k34 _ 34 ?hg (N := 6) ?hd (xs := ([(⟨1, 1⟩ : S34), (⟨3, 50⟩ : S34)] : List (S34))) (inner := [.int .i64 1, .int .i64 1, .int .i64 3, .int .i64 50]) (ok := fun _ => True) (okp := fun _ => True) ?hr ?hp (fun _ hk => hk) trivial (Below.refl _ _) (Nat.le_refl _) (by simp) ?_; (case hd => rfl); (case hg => rfl); (case hr => first | (go_simp; done) | (go_simp; rfl)); (case hp => exact (Reps.c2 (show Kd.M k34 _ _ _ (⟨1, 1⟩ : S34) [.int .i64 1, .int .i64 1] from (k34_mkM _ _ _ (⟨1, 1⟩ : S34) )) (Reps.c2 (show Kd.M k34 _ _ _ (⟨3, 50⟩ : S34) [.int .i64 3, .int .i64 50] from (k34_mkM _ _ _ (⟨3, 50⟩ : S34) )) (Reps.none _ _)))); intro v309 w7 ho8 hb hg_ hnew_; clear hg_ hnew_; (first | rw [← Ny308.out] at ho8 | (simp only [Int.reduceToNat] at ho8; rw [← Ny308.out] at ho8)); have n0_ := Aside0.mk (Kd.R_lower ho8 (below_size (by repeat (first | (with_reducible first | exact HB.out | apply below_alloc | apply pw_below_drewN | apply below_drew1) | exact HB.out)))); have n1_ := Aside0.mk (below_step (by repeat (first | (with_reducible first | exact HB.out | apply below_alloc | apply pw_below_drewN | apply below_drew1) | exact HB.out)) hb); clear HB; have HO310 := n0_; have HB := n1_; clear n0_ n1_; clear hb ho8; obtain ⟨Ao9, co9, eo9⟩ := Kd.R_slice HO310.out; subst eo9) | ((with_reducible refine gate_callee (f := 22) rfl ?_); refine goesL_ (some 7) rfl rfl Tryz.func22 (by kernel_rfl) rfl #[.slice Ao9 y308.length co9, .int .i64 2, .int .i64 90] rfl (by (try simp only [List.map_toArray, List.map_cons, List.map_nil]); first | done | rfl | (simp only [List.length_drop, List.length_take]; rfl)) ?_; (with_reducible refine (redo_Part.calls k _ _ y308 2 90 t311 t312 _ ?side1 ?side2 A1.out).mono ?_); (case side1 => repeat (first | exact (Kd.R_reads' HO310.out).2.2 | (with_reducible refine Kd.C_alloc ?_ _) | (with_reducible refine Kd.C_drewN ?_ _) | (with_reducible refine Kd.C_drew ?_))); (case side2 => exact (Kd.R_reads' HO310.out).2.1); rintro e w10 ⟨rfl, hb⟩; refine ⟨_, rfl, ?_⟩; have n0_ := Aside0.mk (Kd.R_below (by (with_reducible repeat (first | apply Kd.R_alloc | apply Kd.R_drewN | apply Kd.R_drew)); exact HO310.out) hb); have n1_ := Aside0.mk (below_step (by repeat (first | (with_reducible first | exact HB.out | apply below_alloc | apply pw_below_drewN | apply below_drew1) | exact HB.out)) hb); clear HO310; clear HB; have HO310 := n0_; have HB := n1_; clear n0_ n1_; (try clear hb); (try clear hb2); (try clear hk); (try clear hi)))
    go_ret
    exact ⟨by first | rfl | (simp [errW_none, errW_some] <;> rfl) | (simp [*, errW_none, errW_some] <;> rfl), by repeat (first | (with_reducible first | exact HB.out | apply below_alloc | apply pw_below_drewN | apply below_drew1) | exact HB.out)⟩

/-- THE ONE PURE STATEMENT of gharrylaw15_awake: yours. -/
def gharrylaw15_awake.Pure : Prop := ∃ k, gharrylaw15_awake.f k  = some true
theorem gharrylaw15_awake.walk (P : gharrylaw15_awake.Pure)  (w : World)  :
    Calls Tryz.prog 13 #[] w fun e w' => e = .returned (.bool true) ∧ Below w.heap.size w w' := by
  obtain ⟨k, h⟩ := P  
  refine (gharrylaw15_awake.calls k  true w h).mono ?_
  rintro e w' ⟨rfl, hd⟩
  exact ⟨rfl, hd⟩

end Go.Proofs.YteoebfiacnploaaGreat.HRec
namespace Go.Proofs.YteoebfiacnploaaGreat.HRec
open Go.RowKit Go.Proofs.YteoebfiacnploaaGreatW.PrintWords Go.Proofs.YteoebfiacnploaaGreatW.PrintLast Go.Proofs.YteoebfiacnploaaGreatW.PrintMore
set_option linter.unusedVariables false
set_option linter.unusedSimpArgs false
theorem same_l_self (l : List S36) (hl : l.length ≤ 100000) : ∀ (n k : Nat) (i : Int), 0 ≤ i → ((l.length : Int) - i).toNat ≤ n → n + 1 ≤ k → gharrylaw15_same.l0 k l l i = some true
  | n, 0, _, _, _, hk => absurd hk (by omega)
  | n, k + 1, i, h0, hn, hk => by
    unfold gharrylaw15_same.l0
    by_cases hc : i < (l.length : Int)
    · obtain ⟨n, rfl⟩ : ∃ m, n = m + 1 := ⟨n - 1, by omega⟩
      rw [if_pos hc, if_pos h0, if_pos hc, if_neg (by simp), w64 (by omega) (by omega)]
      exact same_l_self l hl n k (i + 1) (by omega) (by omega) (by omega)
    · rw [if_neg hc]
theorem same_self (l : List S36) (hl : l.length ≤ 100000) : gharrylaw15_same.f 100001 l l = some true := by
  unfold gharrylaw15_same.f
  rw [if_pos rfl]
  exact same_l_self l hl 100000 100001 0 (by omega) (by omega) (by omega)
theorem awake_true : gharrylaw15_awake.f 10 = some true := by kernel_rfl
end Go.Proofs.YteoebfiacnploaaGreat.HRec
