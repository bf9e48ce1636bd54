/- Texts of this proof, put together: SayC, Fsumhalf. They prove no statement. -/
import Derived.Test.YteoebfiacnploaaGreatDoorQG4
import Derived.Test.YteoebfiacnploaaGreatDoorQHookRh0
import Derived.Test.YteoebfiacnploaaGreatDoorQFtypes
namespace Go.Proofs.YteoebfiacnploaaGreatDoor.HRec
open Go.RowKit Go.Proofs.YteoebfiacnploaaGreatDoorW.PrintWords Go.Proofs.YteoebfiacnploaaGreatDoorW.PrintLast Go.Proofs.YteoebfiacnploaaGreatDoorW.PrintMore
set_option linter.unusedVariables false
set_option linter.unusedSimpArgs false
theorem IsRec.alloc {W : World} {h : Nat} {x0 x1 x2 x3 x4 : Int} {k o n : ByteArray} {x8 : Int} {vI vT : Value} {x11 x12 : Int} (hr : IsRec W h x0 x1 x2 x3 x4 k o n x8 vI vT x11 x12) (u : Obj) : IsRec (W.alloc u) h x0 x1 x2 x3 x4 k o n x8 vI vT x11 x12 := blk_alloc hr u
theorem end15 {W : World} {h1 : Nat} {a : Act} {y0 y1 y2 y3 y4 : Int} {y5 y6 y7 : ByteArray} {y8 : Int} {v9 v10 : Value} {y11 y12 : Int} {Q : Ending → World → Prop} (Z : IsRec W h1 0 0 0 0 0 ⟨#[]⟩ ⟨#[]⟩ ⟨#[]⟩ 0 (.slice none 0 0) (.slice none 0 0) 0 0) (hp : a.tmps.getD 2 undef = .pointer (some ⟨h1, 0, none⟩)) (hd : a.defers = []) (h : Q (.returned (.agg #[.int .i64 y0, .int .i64 y1, .int .i64 y2, .int .i64 y3, .int .i64 y4, .string y5, .string y6, .string y7, .int .i64 y8, v9, v10, .int .i64 y11, .int .i64 y12])) (((((((((((((W.setCell ⟨h1, 0, none⟩ (.int .i64 y0)).setCell ⟨h1, 1, none⟩ (.int .i64 y1)).setCell ⟨h1, 2, none⟩ (.int .i64 y2)).setCell ⟨h1, 3, none⟩ (.int .i64 y3)).setCell ⟨h1, 4, none⟩ (.int .i64 y4)).setCell ⟨h1, 5, none⟩ (.string y5)).setCell ⟨h1, 6, none⟩ (.string y6)).setCell ⟨h1, 7, none⟩ (.string y7)).setCell ⟨h1, 8, none⟩ (.int .i64 y8)).setCell ⟨h1, 9, none⟩ v9).setCell ⟨h1, 10, none⟩ v10).setCell ⟨h1, 11, none⟩ (.int .i64 y11)).setCell ⟨h1, 12, none⟩ (.int .i64 y12))) :
    bodyPost Tryz.prog Tryz.f15 Q .ret a (((((((((((((W.setCell ⟨h1, 0, none⟩ (.int .i64 y0)).setCell ⟨h1, 1, none⟩ (.int .i64 y1)).setCell ⟨h1, 2, none⟩ (.int .i64 y2)).setCell ⟨h1, 3, none⟩ (.int .i64 y3)).setCell ⟨h1, 4, none⟩ (.int .i64 y4)).setCell ⟨h1, 5, none⟩ (.string y5)).setCell ⟨h1, 6, none⟩ (.string y6)).setCell ⟨h1, 7, none⟩ (.string y7)).setCell ⟨h1, 8, none⟩ (.int .i64 y8)).setCell ⟨h1, 9, none⟩ v9).setCell ⟨h1, 10, none⟩ v10).setCell ⟨h1, 11, none⟩ (.int .i64 y11)).setCell ⟨h1, 12, none⟩ (.int .i64 y12)) :=
  bodyPost_ret (results_single rfl (.cell h1 33 #[.int .i64 y0, .int .i64 y1, .int .i64 y2, .int .i64 y3, .int .i64 y4, .string y5, .string y6, .string y7, .int .i64 y8, v9, v10, .int .i64 y11, .int .i64 y12] (0, 0) _ hp (IsRec.sets13 Z y0 y1 y2 y3 y4 y5 y6 y7 y8 v9 v10 y11 y12) Tryz.underlying33 rfl (by kernel_rfl) .nil)) hd h
set_option maxHeartbeats 16000000 in
set_option maxRecDepth 100000 in
theorem ref_Clean (x0 x1 x2 x3 x4 : Int) (k o n : ByteArray) (x8 : Int) (A9 : Option Addr) (c9 : Nat) (l9 : List S144) (A10 : Option Addr) (c10 : Nat) (l10 : List S36) (x11 x12 : Int) (w : World) (hr9 : Kd.C k144 w A9 l9.length l9) (hc9 : l9.length ≤ c9) (hr10 : Kd.C k36 w A10 l10.length l10) (hc10 : l10.length ≤ c10) :
    Calls Tryz.prog 15 #[.agg #[.int .i64 x0, .int .i64 x1, .int .i64 x2, .int .i64 x3, .int .i64 x4, .string k, .string o, .string n, .int .i64 x8, .slice A9 l9.length c9, .slice A10 l10.length c10, .int .i64 x11, .int .i64 x12]] w fun e w' => ∃ v, e = .returned v ∧ recV v w (cleanR x0 x1 x2 x3 x4 k o n x8 l9 l10 x11 x12) ∧ Below w.heap.size w w' := by
  have hu32 := Tryz.underlying33
  have n9 : Kd.C k144 w none ([] : List S144).length [] := Kd.C_nil _ _
  have n10 : Kd.C k36 w none ([] : List S36).length [] := Kd.C_nil _ _
  obtain ⟨W2, hW2⟩ : ∃ W2, W2 = ((w.alloc (.cells #[.int .i64 x0, .int .i64 x1, .int .i64 x2, .int .i64 x3, .int .i64 x4, .string k, .string o, .string n, .int .i64 x8, .slice A9 l9.length c9, .slice A10 l10.length c10, .int .i64 x11, .int .i64 x12] 33)).alloc (.cells #[.int .i64 0, .int .i64 0, .int .i64 0, .int .i64 0, .int .i64 0, .string ⟨#[]⟩, .string ⟨#[]⟩, .string ⟨#[]⟩, .int .i64 0, .slice none 0 0, .slice none 0 0, .int .i64 0, .int .i64 0] 33)) := ⟨_, rfl⟩
  have hs : W2.heap.size = w.heap.size + 2 := by rw [hW2]; simp
  have RR : IsRec W2 w.heap.size x0 x1 x2 x3 x4 k o n x8 (.slice A9 l9.length c9) (.slice A10 l10.length c10) x11 x12 := by rw [hW2]; exact blk_alloc (blk_new w _) _
  have RZ : IsRec W2 (w.heap.size + 1) 0 0 0 0 0 ⟨#[]⟩ ⟨#[]⟩ ⟨#[]⟩ 0 (.slice none 0 0) (.slice none 0 0) 0 0 := by
    rw [hW2]
    have := blk_new (w.alloc (.cells #[.int .i64 x0, .int .i64 x1, .int .i64 x2, .int .i64 x3, .int .i64 x4, .string k, .string o, .string n, .int .i64 x8, .slice A9 l9.length c9, .slice A10 l10.length c10, .int .i64 x11, .int .i64 x12] 33)) (.cells #[.int .i64 0, .int .i64 0, .int .i64 0, .int .i64 0, .int .i64 0, .string ⟨#[]⟩, .string ⟨#[]⟩, .string ⟨#[]⟩, .int .i64 0, .slice none 0 0, .slice none 0 0, .int .i64 0, .int .i64 0] 33)
    rwa [show (w.alloc (.cells #[.int .i64 x0, .int .i64 x1, .int .i64 x2, .int .i64 x3, .int .i64 x4, .string k, .string o, .string n, .int .i64 x8, .slice A9 l9.length c9, .slice A10 l10.length c10, .int .i64 x11, .int .i64 x12] 33)).heap.size = w.heap.size + 1 from by simp] at this
  have hB : Below w.heap.size w W2 := by rw [hW2]; exact below_alloc (below_alloc (Below.refl _ _) _) _
  obtain ⟨h0, hh0⟩ : ∃ h, h = w.heap.size := ⟨_, rfl⟩
  obtain ⟨h1, hh1⟩ : ∃ h, h = w.heap.size + 1 := ⟨_, rfl⟩
  have hs1 : (w.alloc (.cells #[.int .i64 x0, .int .i64 x1, .int .i64 x2, .int .i64 x3, .int .i64 x4, .string k, .string o, .string n, .int .i64 x8, .slice A9 l9.length c9, .slice A10 l10.length c10, .int .i64 x11, .int .i64 x12] 33)).heap.size = h1 := by rw [hh1]; simp
  rw [← hh0] at RR
  rw [← hh1] at RZ
  have e0 := Aside0.mk hh0; have e1 := Aside0.mk hh1; have RA := Aside0.mk RR; have ZA := Aside0.mk RZ; have SA := Aside0.mk hs; have BA := Aside0.mk hB; have R9 := Aside0.mk (And.intro hr9 hc9); have R10 := Aside0.mk (And.intro hr10 hc10); clear RR RZ hs hB hr9 hc9 hr10 hc10 hs1 hh1
  go_enter Tryz.func15, Tryz.ntmps15
  go_upto_region 1 with fail
  rw [← hW2, ← hh0, show h0 + 1 = h1 from by have := e0.out; have := e1.out; omega]
  clear hW2 hh0
  obtain ⟨z0, z1, z2, z3, z4, z5, z6, z7, z8, z9, z10, z11, z12, z13, z14, z15, z16, z17, z18, z19, z20, z21, z22, z23, z24, z25⟩ := IsRec.all13 RA.out
  go_upto_region 2 with fail
  obtain ⟨h2, hh2⟩ : ∃ h, h = W2.heap.size := ⟨_, rfl⟩
  have RO := blk_new W2 (.cells #[.int .i64 x0, .int .i64 0, .int .i64 0, .int .i64 0, .int .i64 0, .string ⟨#[]⟩, .string ⟨#[]⟩, .string ⟨#[]⟩, .int .i64 0, .slice none 0 0, .slice none 0 0, .int .i64 0, .int .i64 0] 33)
  have RO2 : IsRec (W2.alloc (.cells #[.int .i64 x0, .int .i64 0, .int .i64 0, .int .i64 0, .int .i64 0, .string ⟨#[]⟩, .string ⟨#[]⟩, .string ⟨#[]⟩, .int .i64 0, .slice none 0 0, .slice none 0 0, .int .i64 0, .int .i64 0] 33)) W2.heap.size x0 0 0 0 0 ⟨#[]⟩ ⟨#[]⟩ ⟨#[]⟩ 0 (.slice none 0 0) (.slice none 0 0) 0 0 := RO
  have RR2 := IsRec.alloc RA.out (.cells #[.int .i64 x0, .int .i64 0, .int .i64 0, .int .i64 0, .int .i64 0, .string ⟨#[]⟩, .string ⟨#[]⟩, .string ⟨#[]⟩, .int .i64 0, .slice none 0 0, .slice none 0 0, .int .i64 0, .int .i64 0] 33)
  have RZ2 := IsRec.alloc ZA.out (.cells #[.int .i64 x0, .int .i64 0, .int .i64 0, .int .i64 0, .int .i64 0, .string ⟨#[]⟩, .string ⟨#[]⟩, .string ⟨#[]⟩, .int .i64 0, .slice none 0 0, .slice none 0 0, .int .i64 0, .int .i64 0] 33)
  have B2 := below_alloc BA.out (.cells #[.int .i64 x0, .int .i64 0, .int .i64 0, .int .i64 0, .int .i64 0, .string ⟨#[]⟩, .string ⟨#[]⟩, .string ⟨#[]⟩, .int .i64 0, .slice none 0 0, .slice none 0 0, .int .i64 0, .int .i64 0] 33)
  clear RO RA ZA BA z0 z1 z2 z3 z4 z5 z6 z7 z8 z9 z10 z11 z12 z13 z14 z15 z16 z17 z18 z19 z20 z21 z22 z23 z24 z25
  rw [← hh2] at RO2
  rw [← hh2]
  generalize W2.alloc (.cells #[.int .i64 x0, .int .i64 0, .int .i64 0, .int .i64 0, .int .i64 0, .string ⟨#[]⟩, .string ⟨#[]⟩, .string ⟨#[]⟩, .int .i64 0, .slice none 0 0, .slice none 0 0, .int .i64 0, .int .i64 0] 33) = W3 at *
  have ne02 : h0 ≠ h2 := by have := e0.out; have := e1.out; have := SA.out; omega
  have ne12 : h1 ≠ h2 := by have := e0.out; have := e1.out; have := SA.out; omega
  have g1 : w.heap.size ≤ h1 := by have := e1.out; omega
  have g2 : w.heap.size ≤ h2 := by have := SA.out; omega
  have RA := Aside0.mk RR2; have ZA := Aside0.mk RZ2; have OA := Aside0.mk RO2; have BA := Aside0.mk B2; have G1 := Aside0.mk g1; have G2 := Aside0.mk g2; clear RR2 RZ2 RO2 B2 hh2 g1 g2 SA e0 e1
  obtain ⟨z0, z1, z2, z3, z4, z5, z6, z7, z8, z9, z10, z11, z12, z13, z14, z15, z16, z17, z18, z19, z20, z21, z22, z23, z24, z25⟩ := IsRec.all13 RA.out
  obtain ⟨y0, y1, y2, y3, y4, y5, y6, y7, y8, y9, y10, y11, y12, y13, y14, y15, y16, y17, y18, y19, y20, y21, y22, y23, y24, y25⟩ := IsRec.all13 OA.out
  obtain ⟨p0, p1, p2, p3, p4, p5, p6, p7, p8, p9, p10, p11, p12, p13, p14, p15, p16, p17, p18, p19, p20, p21, p22, p23, p24, p25⟩ := IsRec.all13 ZA.out
  rcases (show x0 = 1 ∨ x0 = 2 ∨ x0 = 3 ∨ x0 = 4 ∨ x0 = 5 ∨ x0 = 6 ∨ x0 = 7 ∨ x0 = 8 ∨ x0 = 9 ∨ x0 = 10 ∨ (x0 < 1 ∨ 10 < x0) by omega) with rfl | rfl | rfl | rfl | rfl | rfl | rfl | rfl | rfl | rfl | hk
  · (
    go_wp2_with fail
    (try simp only [Exit.inBlock, Exit.then])
    refine end15 ?Z rfl rfl ?_
    case Z => repeat with_reducible first | exact ZA.out | refine IsRec.farH ?_ ne12 _
    refine ⟨_, rfl, ?_, below13 (by repeat with_reducible first | exact BA.out | refine below_set ?_ G2.out) G1.out⟩
    exact (recV_mk w _ _ _ _ _ _ _ _ _ _ _ _ _ _ _ _ _ R9.out.1 R9.out.2 n10 (Nat.zero_le 0)))
  · (
    go_wp2_with fail
    (try simp only [Exit.inBlock, Exit.then])
    refine end15 ?Z rfl rfl ?_
    case Z => repeat with_reducible first | exact ZA.out | refine IsRec.farH ?_ ne12 _
    refine ⟨_, rfl, ?_, below13 (by repeat with_reducible first | exact BA.out | refine below_set ?_ G2.out) G1.out⟩
    exact (recV_mk w _ _ _ _ _ _ _ _ _ _ _ _ _ _ _ _ _ R9.out.1 R9.out.2 n10 (Nat.zero_le 0)))
  · (
    go_wp2_with fail
    (try simp only [Exit.inBlock, Exit.then])
    refine end15 ?Z rfl rfl ?_
    case Z => repeat with_reducible first | exact ZA.out | refine IsRec.farH ?_ ne12 _
    refine ⟨_, rfl, ?_, below13 (by repeat with_reducible first | exact BA.out | refine below_set ?_ G2.out) G1.out⟩
    rw [show cleanR 3 x1 x2 x3 x4 k o n x8 l9 l10 x11 x12 = (3, x1, x2, x3, 0, k, ⟨#[]⟩, n, 0, [], [], 0, 0) from rfl]
    exact (recV_mk w _ _ _ _ _ _ _ _ _ _ _ _ _ _ _ _ _ n9 (Nat.zero_le 0) n10 (Nat.zero_le 0)))
  · (
    go_wp2_with fail
    (try simp only [Exit.inBlock, Exit.then])
    refine end15 ?Z rfl rfl ?_
    case Z => repeat with_reducible first | exact ZA.out | refine IsRec.farH ?_ ne12 _
    refine ⟨_, rfl, ?_, below13 (by repeat with_reducible first | exact BA.out | refine below_set ?_ G2.out) G1.out⟩
    rw [show cleanR 4 x1 x2 x3 x4 k o n x8 l9 l10 x11 x12 = (4, x1, x2, x3, 0, k, o, ⟨#[]⟩, 0, [], [], 0, 0) from rfl]
    exact (recV_mk w _ _ _ _ _ _ _ _ _ _ _ _ _ _ _ _ _ n9 (Nat.zero_le 0) n10 (Nat.zero_le 0)))
  · (
    go_wp2_with fail
    (try simp only [Exit.inBlock, Exit.then])
    refine end15 ?Z rfl rfl ?_
    case Z => repeat with_reducible first | exact ZA.out | refine IsRec.farH ?_ ne12 _
    refine ⟨_, rfl, ?_, below13 (by repeat with_reducible first | exact BA.out | refine below_set ?_ G2.out) G1.out⟩
    rw [show cleanR 5 x1 x2 x3 x4 k o n x8 l9 l10 x11 x12 = (5, x1, x2, x3, 0, k, o, n, 0, [], [], 0, 0) from rfl]
    exact (recV_mk w _ _ _ _ _ _ _ _ _ _ _ _ _ _ _ _ _ n9 (Nat.zero_le 0) n10 (Nat.zero_le 0)))
  · rcases (show x4 = 3 ∨ x4 = 4 ∨ (x4 ≠ 3 ∧ x4 ≠ 4) by omega) with rfl | rfl | ⟨h3, h4⟩
    all_goals try have b3 : (x4 != 3) = true := bne_iff_ne.mpr h3
    all_goals try have b4 : (x4 != 4) = true := bne_iff_ne.mpr h4
    · (
      go_wp2_with fail
      (try simp only [Exit.inBlock, Exit.then])
      refine end15 ?Z rfl rfl ?_
      case Z => repeat with_reducible first | exact ZA.out | refine IsRec.farH ?_ ne12 _
      refine ⟨_, rfl, ?_, below13 (by repeat with_reducible first | exact BA.out | refine below_set ?_ G2.out) G1.out⟩
      rw [show cleanR 6 x1 x2 x3 3 k o n x8 l9 l10 x11 x12 = (6, x1, x2, x3, 3, k, ⟨#[]⟩, n, x8, [], [], 0, 0) from rfl]
      exact (recV_mk w _ _ _ _ _ _ _ _ _ _ _ _ _ _ _ _ _ n9 (Nat.zero_le 0) n10 (Nat.zero_le 0)))
    · (
      go_wp2_with fail
      (try simp only [Exit.inBlock, Exit.then])
      refine end15 ?Z rfl rfl ?_
      case Z => repeat with_reducible first | exact ZA.out | refine IsRec.farH ?_ ne12 _
      refine ⟨_, rfl, ?_, below13 (by repeat with_reducible first | exact BA.out | refine below_set ?_ G2.out) G1.out⟩
      rw [show cleanR 6 x1 x2 x3 4 k o n x8 l9 l10 x11 x12 = (6, x1, x2, x3, 4, k, o, ⟨#[]⟩, x8, [], [], 0, 0) from rfl]
      exact (recV_mk w _ _ _ _ _ _ _ _ _ _ _ _ _ _ _ _ _ n9 (Nat.zero_le 0) n10 (Nat.zero_le 0)))
    · (
      go_wp2_with fail
      (try simp only [Exit.inBlock, Exit.then])
      refine end15 ?Z rfl rfl ?_
      case Z => repeat with_reducible first | exact ZA.out | refine IsRec.farH ?_ ne12 _
      refine ⟨_, rfl, ?_, below13 (by repeat with_reducible first | exact BA.out | refine below_set ?_ G2.out) G1.out⟩
      rw [show cleanR 6 x1 x2 x3 x4 k o n x8 l9 l10 x11 x12 = (6, x1, x2, x3, x4, k, o, n, x8, [], [], 0, 0) from by unfold cleanR; rw [if_neg (by decide), if_neg (by decide), if_pos rfl, if_neg h3, if_neg h4]]
      exact (recV_mk w _ _ _ _ _ _ _ _ _ _ _ _ _ _ _ _ _ n9 (Nat.zero_le 0) n10 (Nat.zero_le 0)))
  · (
    go_wp2_with fail
    (try simp only [Exit.inBlock, Exit.then])
    refine end15 ?Z rfl rfl ?_
    case Z => repeat with_reducible first | exact ZA.out | refine IsRec.farH ?_ ne12 _
    refine ⟨_, rfl, ?_, below13 (by repeat with_reducible first | exact BA.out | refine below_set ?_ G2.out) G1.out⟩
    exact (recV_mk w _ _ _ _ _ _ _ _ _ _ _ _ _ _ _ _ _ n9 (Nat.zero_le 0) n10 (Nat.zero_le 0)))
  · (
    go_wp2_with fail
    (try simp only [Exit.inBlock, Exit.then])
    refine end15 ?Z rfl rfl ?_
    case Z => repeat with_reducible first | exact ZA.out | refine IsRec.farH ?_ ne12 _
    refine ⟨_, rfl, ?_, below13 (by repeat with_reducible first | exact BA.out | refine below_set ?_ G2.out) G1.out⟩
    exact (recV_mk w _ _ _ _ _ _ _ _ _ _ _ _ _ _ _ _ _ n9 (Nat.zero_le 0) n10 (Nat.zero_le 0)))
  · (
    go_wp2_with fail
    (try simp only [Exit.inBlock, Exit.then])
    refine end15 ?Z rfl rfl ?_
    case Z => repeat with_reducible first | exact ZA.out | refine IsRec.farH ?_ ne12 _
    refine ⟨_, rfl, ?_, below13 (by repeat with_reducible first | exact BA.out | refine below_set ?_ G2.out) G1.out⟩
    exact (recV_mk w _ _ _ _ _ _ _ _ _ _ _ _ _ _ _ _ _ n9 (Nat.zero_le 0) R10.out.1 R10.out.2))
  · (
    go_wp2_with fail
    (try simp only [Exit.inBlock, Exit.then])
    refine end15 ?Z rfl rfl ?_
    case Z => repeat with_reducible first | exact ZA.out | refine IsRec.farH ?_ ne12 _
    refine ⟨_, rfl, ?_, below13 (by repeat with_reducible first | exact BA.out | refine below_set ?_ G2.out) G1.out⟩
    exact (recV_mk w _ _ _ _ _ _ _ _ _ _ _ _ _ _ _ _ _ n9 (Nat.zero_le 0) n10 (Nat.zero_le 0)))
  · have m1 : (x0 == 1) = false := beq_eq_false_iff_ne.mpr (by omega)
    have m2 : (x0 == 2) = false := beq_eq_false_iff_ne.mpr (by omega)
    have m3 : (x0 == 3) = false := beq_eq_false_iff_ne.mpr (by omega)
    have m4 : (x0 == 4) = false := beq_eq_false_iff_ne.mpr (by omega)
    have m5 : (x0 == 5) = false := beq_eq_false_iff_ne.mpr (by omega)
    have m6 : (x0 == 6) = false := beq_eq_false_iff_ne.mpr (by omega)
    have m7 : (x0 == 7) = false := beq_eq_false_iff_ne.mpr (by omega)
    have m8 : (x0 == 8) = false := beq_eq_false_iff_ne.mpr (by omega)
    have m9 : (x0 == 9) = false := beq_eq_false_iff_ne.mpr (by omega)
    have m10 : (x0 == 10) = false := beq_eq_false_iff_ne.mpr (by omega)
    (
    have HK := Aside0.mk hk; clear hk
    go_wp2_with fail
    (try simp only [Exit.inBlock, Exit.then])
    refine end15 ?Z rfl rfl ?_
    case Z => repeat with_reducible first | exact ZA.out | refine IsRec.farH ?_ ne12 _
    refine ⟨_, rfl, ?_, below13 (by repeat with_reducible first | exact BA.out | refine below_set ?_ G2.out) G1.out⟩
    rw [show cleanR x0 x1 x2 x3 x4 k o n x8 l9 l10 x11 x12 = (x0, 0, 0, 0, 0, ⟨#[]⟩, ⟨#[]⟩, ⟨#[]⟩, 0, [], [], 0, 0) from by unfold cleanR; rw [if_neg (by have := HK.out; omega), if_neg (by have := HK.out; omega), if_neg (by have := HK.out; omega), if_neg (by have := HK.out; omega), if_neg (by have := HK.out; omega), if_neg (by have := HK.out; omega)]]
    exact (recV_mk w _ _ _ _ _ _ _ _ _ _ _ _ _ _ _ _ _ n9 (Nat.zero_le 0) n10 (Nat.zero_le 0)))
end Go.Proofs.YteoebfiacnploaaGreatDoor.HRec
namespace Go.Proofs.YteoebfiacnploaaGreatDoor.HRec
open Go.RowKit Go.Proofs.YteoebfiacnploaaGreatDoor.HRec Go.Proofs.YteoebfiacnploaaGreatDoorW.PrintWords Go.Proofs.YteoebfiacnploaaGreatDoorW.PrintLast Go.Proofs.YteoebfiacnploaaGreatDoorW.PrintMore
attribute [local go_sem] max2_int min2_int max_two min_two max_three min_three max_four min_four   -- for this text's walks alone
set_option linter.unusedVariables false
set_option linter.unusedSimpArgs false
attribute [local go_sem high] eqA36
/-! ### sum_half: function 112 -/
def sum_half.l0 : Nat → Int → Int → Option (Int)
  | 0, _, _ => none
  | k + 1, x0, x3 => if x3 < 4 then (if (Go.bits .and .u32 x0 1) = 1 then (sum_half.l0 k (Go.bits .xor .u32 (x0 / 2) 2197175160) (wrap64 (x3 + 1))) else (sum_half.l0 k (x0 / 2) (wrap64 (x3 + 1)))) else (some x0)
def sum_half.f (k : Nat) (a0 : Int) : Option (Int) := sum_half.l0 k a0 0
theorem sum_half.mono_l : ∀ k, (∀ y0 y1, LeO (sum_half.l0 k y0 y1) (sum_half.l0 (k + 1) y0 y1))
  | 0 => fun _ _ r h => by simp [sum_half.l0] at h
  | k + 1 => by
    have ih0 := sum_half.mono_l k
    · intro y0 y1
      unfold sum_half.l0
      repeat' first
      | (with_reducible exact ih0 _ _)
      | (with_reducible exact LeO.refl _)
      | (with_reducible exact LeO.none _)
      | (with_reducible refine LeO.ite ?_ ?_)
      | (with_reducible refine LeO.bind ?_ (fun _ => ?_))
      | exact ih0 _ _
      | exact LeO.none _
      | refine LeO.ite ?_ ?_
      | refine LeO.bind ?_ (fun _ => ?_)
theorem sum_half.mono : ∀ a0 k, LeO (sum_half.f k a0) (sum_half.f (k + 1) a0) := by
  intro a0 k
  have ih0 := sum_half.mono_l k
  unfold sum_half.f
  repeat' first
      | (with_reducible exact ih0 _ _)
      | (with_reducible exact LeO.refl _)
      | (with_reducible exact LeO.none _)
      | (with_reducible refine LeO.ite ?_ ?_)
      | (with_reducible refine LeO.bind ?_ (fun _ => ?_))
      | exact ih0 _ _
      | exact LeO.none _
      | refine LeO.ite ?_ ?_
      | refine LeO.bind ?_ (fun _ => ?_)
set_option maxHeartbeats 8000000 in
set_option maxRecDepth 100000 in
theorem sum_half.calls (k : Nat) (a0 : Int) (r : Int) (w : World) (h : sum_half.f k a0 = some r) :
    Calls Tryz.prog 126 #[.int .u32 a0] w fun e w' => e = .returned (.int .u32 r) ∧ Drawn0 w w' := by
  have H : (sum_half.l0 k a0 0) = some r := h
  clear h
  have H' := Aside0.mk H
  clear H
  go_enter Tryz.func126, Tryz.ntmps126
  go_wp2
  go_loopg [0, 3] k (fun kq v0 v3 w' => ∃ (x0_1 : Int) (x3_1 : Int), v0 = .int .u32 x0_1 ∧ v3 = .int .i64 x3_1 ∧ Aside0 (sum_half.l0 kq x0_1 x3_1 = some r) ∧ Aside0 (kq ≤ k) ∧ Drawn0 w w')
  case atStart => exact ⟨(a0), (0), (by first | rfl | (simp; done) | (simp [*]; done)), (by first | rfl | (simp; done) | (simp [*]; done)), H', ⟨Nat.le_refl _⟩, by repeat (first | exact Drawn0.refl _ | apply Drawn0.step)⟩
  case round =>
    clear H'
    (try clear c1)
    obtain ⟨x0_1, x3_1, rfl, rfl, HA, HK1, ⟨m1, rfl⟩⟩ := hrel
    cases gk with
    | zero => exact absurd HA.out (by simp [sum_half.l0])
    | succ k1 =>
      have H := HA.out; clear HA
      simp only [sum_half.l0] at H
      by_cases c2 : x3_1 < 4
      · rw [if_pos c2] at H
        have c2b0 : decide (x3_1 < 4) = true := decide_eq_true c2
        clear c2
        by_cases c3 : (Go.bits .and .u32 x0_1 1) = 1
        · rw [if_pos c3] at H
          have c3b0 : ((Go.bits .and .u32 x0_1 1) == 1) = true := beq_iff_eq.mpr c3
          have c3b1 : ((Go.bits .and .u32 x0_1 1) != 1) = false := bne_eq_false_iff_eq.mpr c3
          clear c3
          have H' := Aside0.mk H
          clear H
          go_wp2
          go_roundg k1
          case measure => have := HK1.out; omega
          case rel => exact ⟨(Go.bits .xor .u32 (x0_1 / 2) 2197175160), (wrap64 (x3_1 + 1)), (by first | rfl | (simp; done) | (simp [*]; done)), (by first | rfl | (simp; done) | (simp [*]; done)), H', ⟨by have := HK1.out; omega⟩, by repeat (first | exact Drawn0.refl _ | apply Drawn0.step)⟩
        · rw [if_neg c3] at H
          have c3b0 : ((Go.bits .and .u32 x0_1 1) == 1) = false := beq_eq_false_iff_ne.mpr c3
          have c3b1 : ((Go.bits .and .u32 x0_1 1) != 1) = true := bne_iff_ne.mpr c3
          have H' := Aside0.mk H
          clear H
          go_wp2
          go_roundg k1
          case measure => have := HK1.out; omega
          case rel => exact ⟨(x0_1 / 2), (wrap64 (x3_1 + 1)), (by first | rfl | (simp; done) | (simp [*]; done)), (by first | rfl | (simp; done) | (simp [*]; done)), H', ⟨by have := HK1.out; omega⟩, by repeat (first | exact Drawn0.refl _ | apply Drawn0.step)⟩
      · rw [if_neg c2] at H
        have c2b0 : decide (x3_1 < 4) = false := decide_eq_false c2
        clear c2
        obtain rfl := Option.some.inj H
        go_wp2
        go_ret
        exact ⟨by first | rfl | (simp; done) | (simp [*]; done), by repeat (first | exact Drawn0.refl _ | apply Drawn0.step)⟩

end Go.Proofs.YteoebfiacnploaaGreatDoor.HRec
