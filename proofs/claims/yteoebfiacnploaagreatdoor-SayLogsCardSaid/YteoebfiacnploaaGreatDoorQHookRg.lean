/- The contract of rec.body: a record's bytes without a frame, or why there are none. It proves no statement. -/
import Derived.Test.YteoebfiacnploaaGreatDoorQG3
import Derived.Test.YteoebfiacnploaaGreatDoorQHookRc
import Derived.Test.YteoebfiacnploaaGreatDoorQFrecimages
import Derived.Test.YteoebfiacnploaaGreatDoorQG8
import Derived.Test.YteoebfiacnploaaGreatDoorQFpackWriterAll
namespace Go.Proofs.YteoebfiacnploaaGreatDoor.HRec
open Go.RowKit Go.Proofs.YteoebfiacnploaaGreatDoorW.PrintWords Go.Proofs.YteoebfiacnploaaGreatDoorW.PrintLast Go.Proofs.YteoebfiacnploaaGreatDoorW.PrintMore
set_option linter.unusedVariables false
set_option linter.unusedSimpArgs false
def bodyTail (e : Int) (s : ByteArray) (f : Int) : ByteArray × Int :=
  if (if e = 0 then f else e) = 0 then (if s.size > 4096 then (⟨#[]⟩, 3) else (s, 0)) else (⟨#[]⟩, if e = 0 then f else e)
def tabF : List S36 → ByteArray → Int → Option (ByteArray × Int)
  | [], s, e => some (s, e)
  | a :: l, s, e => (pack_Writer_Num.f s e a.f0 6).bind fun b => (pack_Writer_Num.f b.1 b.2 a.f1 6).bind fun c => tabF l c.1 c.2
def rec_body.f (x0 x1 x2 x3 x4 : Int) (k o n : ByteArray) (x8 : Int) (l9 : List S144) (l10 : List S36) (x11 x12 : Int) : Option (ByteArray × Int) :=
  (pack_Writer_Num.f ⟨#[]⟩ 0 x0 1).bind fun a =>
    if x0 = 1 then (if l9.length = 1 then (rec_images.f (l9.length + 5) a.1 a.2 l9).bind fun i => some (bodyTail i.1 i.2.1 i.2.2) else some (⟨#[]⟩, 4))
    else if x0 = 2 then (rec_images.f (l9.length + 5) a.1 a.2 l9).bind fun i => some (bodyTail i.1 i.2.1 i.2.2)
    else if x0 = 6 then (if 3 ≤ x4 ∧ x4 ≤ 5 then (rec_cut.f 10 k [o, n]).bind fun e => (rec_link.f a.1 a.2 x0 x1 x2 x3 x4 k o n x8 l9 l10 x11 x12).bind fun b => (pack_Writer_Num.f b.1 b.2 x8 6).bind fun c => (pack_Writer_Num.f c.1 c.2 x4 1).bind fun d => (rec_change.f d.1 d.2 x0 x1 x2 x3 x4 k o n x8 l9 l10 x11 x12 x4).bind fun u => some (bodyTail e u.1 u.2) else some (⟨#[]⟩, 4))
    else if x0 = 3 ∨ x0 = 4 ∨ x0 = 5 then (rec_cut.f 10 k [o, n]).bind fun e => (rec_link.f a.1 a.2 x0 x1 x2 x3 x4 k o n x8 l9 l10 x11 x12).bind fun b => (rec_change.f b.1 b.2 x0 x1 x2 x3 x4 k o n x8 l9 l10 x11 x12 x0).bind fun u => some (bodyTail e u.1 u.2)
    else if x0 = 7 ∨ x0 = 8 then (rec_link.f a.1 a.2 x0 x1 x2 x3 x4 k o n x8 l9 l10 x11 x12).bind fun b => some (bodyTail 0 b.1 b.2)
    else if x0 = 9 then (pack_Writer_Num.f a.1 a.2 (l10.length : Int) 1).bind fun b => (tabF l10 b.1 b.2).bind fun c => some (bodyTail 0 c.1 c.2)
    else if x0 = 10 then (pack_Writer_Num.f a.1 a.2 x11 4).bind fun b => (pack_Writer_Num.f b.1 b.2 x12 1).bind fun c => some (bodyTail 0 c.1 c.2)
    else some (⟨#[]⟩, 1)
theorem C_keep {α : Type} {kd : Kd α} {w wc W_ : World} {A : Option Addr} {m g : Nat} {xs : List α} (h : kd.C w A m xs) (hK : ∀ x cs, kd.K w x cs → kd.K W_ x cs) (hb : Below w.heap.size w wc) (hk : KeepBut wc W_ g none) (hg : w.heap.size ≤ g) : kd.C W_ A m xs := by
  refine ⟨h.1, h.2.1, fun hp => ?_⟩
  obtain ⟨ad, e, hc⟩ := h.2.2 hp
  refine ⟨ad, e, fun j p hj => ?_⟩
  obtain ⟨c, hl, hk1, hcell⟩ := hc j p hj
  refine ⟨c, hl, hK _ _ hk1, fun i u hu => ?_⟩
  have h1 := hcell i u hu
  have hlt := World.block_lt_of_cell? w _ h1
  have h2 : W_.heap[(ad.add (j * kd.sz + i)).block]? = w.heap[(ad.add (j * kd.sz + i)).block]? :=
    (hk.2 _ (Nat.lt_of_lt_of_le hlt hb.size) (by omega) (by simp)).trans (hb.block _ hlt)
  exact (World.cell?_of_block h2).trans h1
theorem strs2 (W : World) (t : TypeId) (o n : ByteArray) : Kd.C Kd.string (W.alloc (.cells #[.string o, .string n] t)) (some ⟨W.heap.size, 0, none⟩) [o, n].length [o, n] := by
  refine ⟨rfl, by simp, fun _ => ⟨_, rfl, fun j p hj => ?_⟩⟩
  have hb := blk_new W (.cells #[.string o, .string n] t)
  match j, hj with
  | 0, hj =>
    obtain rfl : o = p := by simpa using hj
    refine ⟨[.string o], rfl, rfl, fun i u hu => ?_⟩
    match i, hu with
    | 0, hu => obtain rfl : Value.string o = u := by simpa using hu
               exact (blk_cell hb 0).trans rfl
  | 1, hj =>
    obtain rfl : n = p := by simpa using hj
    refine ⟨[.string n], rfl, rfl, fun i u hu => ?_⟩
    match i, hu with
    | 0, hu => obtain rfl : Value.string n = u := by simpa using hu
               exact (blk_cell hb 1).trans rfl
section
variable {W : World} {h : Nat} {x0 x1 x2 x3 x4 : Int} {k o n : ByteArray} {x8 : Int} {vI vT : Value} {x11 x12 : Int}
theorem IsRec.at_0 (hr : IsRec W h x0 x1 x2 x3 x4 k o n x8 vI vT x11 x12) : W.cell? ⟨h, 0, none⟩ = some (.int .i64 x0) := (blk_cell hr 0).trans rfl
theorem IsRec.at_1 (hr : IsRec W h x0 x1 x2 x3 x4 k o n x8 vI vT x11 x12) : W.cell? ⟨h, 1, none⟩ = some (.int .i64 x1) := (blk_cell hr 1).trans rfl
theorem IsRec.at_2 (hr : IsRec W h x0 x1 x2 x3 x4 k o n x8 vI vT x11 x12) : W.cell? ⟨h, 2, none⟩ = some (.int .i64 x2) := (blk_cell hr 2).trans rfl
theorem IsRec.at_3 (hr : IsRec W h x0 x1 x2 x3 x4 k o n x8 vI vT x11 x12) : W.cell? ⟨h, 3, none⟩ = some (.int .i64 x3) := (blk_cell hr 3).trans rfl
theorem IsRec.at_4 (hr : IsRec W h x0 x1 x2 x3 x4 k o n x8 vI vT x11 x12) : W.cell? ⟨h, 4, none⟩ = some (.int .i64 x4) := (blk_cell hr 4).trans rfl
theorem IsRec.at_5 (hr : IsRec W h x0 x1 x2 x3 x4 k o n x8 vI vT x11 x12) : W.cell? ⟨h, 5, none⟩ = some (.string k) := (blk_cell hr 5).trans rfl
theorem IsRec.at_6 (hr : IsRec W h x0 x1 x2 x3 x4 k o n x8 vI vT x11 x12) : W.cell? ⟨h, 6, none⟩ = some (.string o) := (blk_cell hr 6).trans rfl
theorem IsRec.at_7 (hr : IsRec W h x0 x1 x2 x3 x4 k o n x8 vI vT x11 x12) : W.cell? ⟨h, 7, none⟩ = some (.string n) := (blk_cell hr 7).trans rfl
theorem IsRec.at_8 (hr : IsRec W h x0 x1 x2 x3 x4 k o n x8 vI vT x11 x12) : W.cell? ⟨h, 8, none⟩ = some (.int .i64 x8) := (blk_cell hr 8).trans rfl
theorem IsRec.at_9 (hr : IsRec W h x0 x1 x2 x3 x4 k o n x8 vI vT x11 x12) : W.cell? ⟨h, 9, none⟩ = some (vI) := (blk_cell hr 9).trans rfl
theorem IsRec.at_10 (hr : IsRec W h x0 x1 x2 x3 x4 k o n x8 vI vT x11 x12) : W.cell? ⟨h, 10, none⟩ = some (vT) := (blk_cell hr 10).trans rfl
theorem IsRec.at_11 (hr : IsRec W h x0 x1 x2 x3 x4 k o n x8 vI vT x11 x12) : W.cell? ⟨h, 11, none⟩ = some (.int .i64 x11) := (blk_cell hr 11).trans rfl
theorem IsRec.at_12 (hr : IsRec W h x0 x1 x2 x3 x4 k o n x8 vI vT x11 x12) : W.cell? ⟨h, 12, none⟩ = some (.int .i64 x12) := (blk_cell hr 12).trans rfl
end
theorem IsRec.ats {W : World} {h : Nat} {x0 x1 x2 x3 x4 : Int} {k o n : ByteArray} {x8 : Int} {vI vT : Value} {x11 x12 : Int} (hr : IsRec W h x0 x1 x2 x3 x4 k o n x8 vI vT x11 x12) : W.cell? ⟨h, 0, none⟩ = some (.int .i64 x0) ∧ W.cell? ⟨h, 1, none⟩ = some (.int .i64 x1) ∧ W.cell? ⟨h, 2, none⟩ = some (.int .i64 x2) ∧ W.cell? ⟨h, 3, none⟩ = some (.int .i64 x3) ∧ W.cell? ⟨h, 4, none⟩ = some (.int .i64 x4) ∧ W.cell? ⟨h, 5, none⟩ = some (.string k) ∧ W.cell? ⟨h, 6, none⟩ = some (.string o) ∧ W.cell? ⟨h, 7, none⟩ = some (.string n) ∧ W.cell? ⟨h, 8, none⟩ = some (.int .i64 x8) ∧ W.cell? ⟨h, 9, none⟩ = some (vI) ∧ W.cell? ⟨h, 10, none⟩ = some (vT) ∧ W.cell? ⟨h, 11, none⟩ = some (.int .i64 x11) ∧ W.cell? ⟨h, 12, none⟩ = some (.int .i64 x12) := ⟨IsRec.at_0 hr, IsRec.at_1 hr, IsRec.at_2 hr, IsRec.at_3 hr, IsRec.at_4 hr, IsRec.at_5 hr, IsRec.at_6 hr, IsRec.at_7 hr, IsRec.at_8 hr, IsRec.at_9 hr, IsRec.at_10 hr, IsRec.at_11 hr, IsRec.at_12 hr⟩
set_option maxHeartbeats 4000000 in
set_option maxRecDepth 100000 in
theorem body_78 (x0 : Int) (hk : x0 = 7 ∨ x0 = 8) (x1 x2 x3 x4 : Int) (k o n : ByteArray) (x8 : Int) (A9 : Option Addr) (c9 : Nat) (l9 : List S144) (A10 : Option Addr) (c10 : Nat) (l10 : List S36) (x11 x12 : Int) (r1 : ByteArray) (r2 : Int) (w : World) (hr9 : Kd.C k144 w A9 l9.length l9) (hc9 : l9.length ≤ c9) (hr10 : Kd.C k36 w A10 l10.length l10) (hc10 : l10.length ≤ c10)  (h : rec_body.f x0 x1 x2 x3 x4 k o n x8 l9 l10 x11 x12 = some (r1, r2)) :
    Calls Tryz.prog 52 #[.agg #[.int .i64 x0, .int .i64 x1, .int .i64 x2, .int .i64 x3, .int .i64 x4, .string k, .string o, .string n, .int .i64 x8, .slice A9 l9.length c9, .slice A10 l10.length c10, .int .i64 x11, .int .i64 x12]] w fun e w' => e = .returned (.tuple #[.string r1, .int .i64 r2]) ∧ Below w.heap.size w w' := by
  have HR9 := Aside0.mk hr9; have HC9 := Aside0.mk hc9; have HR10 := Aside0.mk hr10; have HC10 := Aside0.mk hc10; clear hr9 hc9 hr10 hc10
  have HNE := Aside0.mk (show w.heap.size ≠ w.heap.size + 1 by omega)
  unfold rec_body.f at h
  replace h := Option.bind_eq_some_iff.mp h
  obtain ⟨⟨a1, a2⟩, ha, h⟩ := h
  have Fa := Aside0.mk ha; clear ha
  rw [if_neg (by omega), if_neg (by omega), if_neg (by omega), if_neg (by omega), if_pos (by omega)] at h
  replace h := Option.bind_eq_some_iff.mp h
  obtain ⟨⟨b1, b2⟩, hb, h⟩ := h
  have Fb := Aside0.mk hb; clear hb; have HT := Aside0.mk (Option.some.inj h); clear h
  have R0 := Aside0.mk (show IsRec ((w.alloc (.cells #[.int .i64 x0, .int .i64 x1, .int .i64 x2, .int .i64 x3, .int .i64 x4, .string k, .string o, .string n, .int .i64 x8, .slice A9 l9.length c9, .slice A10 l10.length c10, .int .i64 x11, .int .i64 x12] 33)).alloc (.cells #[.string ⟨#[]⟩, .int .i64 0] 120)) w.heap.size x0 x1 x2 x3 x4 k o n x8 (.slice A9 l9.length c9) (.slice A10 l10.length c10) x11 x12 from blk_alloc (blk_new w _) _)
  have I0 := Aside0.mk (show IsS114 w ((w.alloc (.cells #[.int .i64 x0, .int .i64 x1, .int .i64 x2, .int .i64 x3, .int .i64 x4, .string k, .string o, .string n, .int .i64 x8, .slice A9 l9.length c9, .slice A10 l10.length c10, .int .i64 x11, .int .i64 x12] 33)).alloc (.cells #[.string ⟨#[]⟩, .int .i64 0] 120)) (w.heap.size + 1) ⟨#[]⟩ 0 from ⟨by have := blk_new (w.alloc (.cells #[.int .i64 x0, .int .i64 x1, .int .i64 x2, .int .i64 x3, .int .i64 x4, .string k, .string o, .string n, .int .i64 x8, .slice A9 l9.length c9, .slice A10 l10.length c10, .int .i64 x11, .int .i64 x12] 33)) (.cells #[.string ⟨#[]⟩, .int .i64 0] 120); rw [show (w.alloc (.cells #[.int .i64 x0, .int .i64 x1, .int .i64 x2, .int .i64 x3, .int .i64 x4, .string k, .string o, .string n, .int .i64 x8, .slice A9 l9.length c9, .slice A10 l10.length c10, .int .i64 x11, .int .i64 x12] 33)).heap.size = w.heap.size + 1 from by simp] at this; exact this, by omega⟩)
  have B0 := Aside0.mk (below_alloc (below_alloc (Below.refl w.heap.size w) (.cells #[.int .i64 x0, .int .i64 x1, .int .i64 x2, .int .i64 x3, .int .i64 x4, .string k, .string o, .string n, .int .i64 x8, .slice A9 l9.length c9, .slice A10 l10.length c10, .int .i64 x11, .int .i64 x12] 33)) (.cells #[.string ⟨#[]⟩, .int .i64 0] 120))
  rcases hk with hk | hk
  all_goals
    have t1 : (x0 == 1) = false := beq_eq_false_iff_ne.mpr (by omega)
    have t2 : (x0 == 2) = false := beq_eq_false_iff_ne.mpr (by omega)
    have t3 : (x0 == 3) = false := beq_eq_false_iff_ne.mpr (by omega)
    have t4 : (x0 == 4) = false := beq_eq_false_iff_ne.mpr (by omega)
    have t5 : (x0 == 5) = false := beq_eq_false_iff_ne.mpr (by omega)
    have t6 : (x0 == 6) = false := beq_eq_false_iff_ne.mpr (by omega)
    have t9 : (x0 == 9) = false := beq_eq_false_iff_ne.mpr (by omega)
    have t10 : (x0 == 10) = false := beq_eq_false_iff_ne.mpr (by omega)
    first | have t7 : (x0 == 7) = true := beq_iff_eq.mpr (by omega) | have t7 : (x0 == 7) = false := beq_eq_false_iff_ne.mpr (by omega)
    first | have t8 : (x0 == 8) = true := beq_iff_eq.mpr (by omega) | have t8 : (x0 == 8) = false := beq_eq_false_iff_ne.mpr (by omega)
    clear hk
    go_enter Tryz.func52, Tryz.ntmps52
    go_wp2_with fail
    refine (pack_Writer_Num.calls (w.heap.size + 1) ⟨#[]⟩ 0 x0 1 a1 a2 w _ I0.out B0.out Fa.out).mono ?_
    rintro x W1 ⟨rfl, q1, q2, q3⟩
    have I1 := Aside0.mk q1; have B1 := Aside0.mk q2; have R1 := Aside0.mk (IsRec.keep R0.out q3 HNE.out); obtain ⟨zR1_0, zR1_1, zR1_2, zR1_3, zR1_4, zR1_5, zR1_6, zR1_7, zR1_8, zR1_9, zR1_10, zR1_11, zR1_12⟩ := IsRec.ats R1.out; clear q1 q2 q3
    go_wp2_with fail
    refine (rec_link.calls (w.heap.size + 1) a1 a2 x0 x1 x2 x3 x4 k o n x8 A9 c9 l9 A10 c10 l10 x11 x12 b1 b2 w _ I1.out B1.out (fun W_ hk => C_keep HR9.out (fun _ _ hz => by obtain rfl := k144_open hz; exact k144_mk _ _) B1.out hk (by omega)) HC9.out (fun W_ hk => C_keep HR10.out (fun _ _ hz => by obtain rfl := k36_open hz; exact k36_mk _ _) B1.out hk (by omega)) HC10.out Fb.out).mono ?_
    rintro x W2 ⟨rfl, q1, q2, q3⟩
    have I2 := Aside0.mk q1; have B2 := Aside0.mk q2; have R2 := Aside0.mk (IsRec.keep R1.out q3 HNE.out); obtain ⟨zR2_0, zR2_1, zR2_2, zR2_3, zR2_4, zR2_5, zR2_6, zR2_7, zR2_8, zR2_9, zR2_10, zR2_11, zR2_12⟩ := IsRec.ats R2.out; clear q1 q2 q3
    go_wp2_with fail
    refine (pack_Writer_All.calls (w.heap.size + 1) b1 b2 b1 b2 b1 b2 w _ I2.out B2.out rfl).mono ?_
    rintro x W3 ⟨rfl, q1, q2, q3⟩
    have B3 := Aside0.mk q2; clear q1 q2 q3; have ht := HT.out
    unfold bodyTail at ht
    rw [if_pos rfl] at ht
    by_cases ht0 : b2 = 0
    · rw [ht0, if_pos rfl] at ht
      have t0 : (b2 == 0) = true := beq_iff_eq.mpr ht0
      have t1 : (b2 != 0) = false := bne_eq_false_iff_eq.mpr ht0
      by_cases hz : b1.size > 4096
      · rw [if_pos hz] at ht
        obtain ⟨rfl, rfl⟩ := Prod.mk.inj ht
        have t2 : decide (4096 < (b1.size : Int)) = true := decide_eq_true (by omega)
        have t3 : decide (4096 < b1.size) = true := decide_eq_true (by omega)
        go_wp2_with fail
        go_ret2
        exact ⟨rfl, B3.out⟩
      · rw [if_neg hz] at ht
        obtain ⟨rfl, rfl⟩ := Prod.mk.inj ht
        have t2 : decide (4096 < (b1.size : Int)) = false := decide_eq_false (by omega)
        have t3 : decide (4096 < b1.size) = false := decide_eq_false (by omega)
        go_wp2_with fail
        go_ret2
        exact ⟨rfl, B3.out⟩
    · rw [if_neg ht0] at ht
      obtain ⟨rfl, rfl⟩ := Prod.mk.inj ht
      have t0 : (b2 == 0) = false := beq_eq_false_iff_ne.mpr ht0
      have t1 : (b2 != 0) = true := bne_iff_ne.mpr ht0
      go_wp2_with fail
      go_ret2
      exact ⟨rfl, B3.out⟩
set_option maxHeartbeats 4000000 in
set_option maxRecDepth 100000 in
theorem body_10 (x1 x2 x3 x4 : Int) (k o n : ByteArray) (x8 : Int) (A9 : Option Addr) (c9 : Nat) (l9 : List S144) (A10 : Option Addr) (c10 : Nat) (l10 : List S36) (x11 x12 : Int) (r1 : ByteArray) (r2 : Int) (w : World) (hr9 : Kd.C k144 w A9 l9.length l9) (hc9 : l9.length ≤ c9) (hr10 : Kd.C k36 w A10 l10.length l10) (hc10 : l10.length ≤ c10)  (h : rec_body.f 10 x1 x2 x3 x4 k o n x8 l9 l10 x11 x12 = some (r1, r2)) :
    Calls Tryz.prog 52 #[.agg #[.int .i64 10, .int .i64 x1, .int .i64 x2, .int .i64 x3, .int .i64 x4, .string k, .string o, .string n, .int .i64 x8, .slice A9 l9.length c9, .slice A10 l10.length c10, .int .i64 x11, .int .i64 x12]] w fun e w' => e = .returned (.tuple #[.string r1, .int .i64 r2]) ∧ Below w.heap.size w w' := by
  have HR9 := Aside0.mk hr9; have HC9 := Aside0.mk hc9; have HR10 := Aside0.mk hr10; have HC10 := Aside0.mk hc10; clear hr9 hc9 hr10 hc10
  have HNE := Aside0.mk (show w.heap.size ≠ w.heap.size + 1 by omega)
  unfold rec_body.f at h
  replace h := Option.bind_eq_some_iff.mp h
  obtain ⟨⟨a1, a2⟩, ha, h⟩ := h
  have Fa := Aside0.mk ha; clear ha
  rw [if_neg (by decide), if_neg (by decide), if_neg (by decide), if_neg (by decide), if_neg (by decide), if_neg (by decide), if_pos (by decide)] at h
  replace h := Option.bind_eq_some_iff.mp h
  obtain ⟨⟨b1, b2⟩, hb, h⟩ := h
  have Fb := Aside0.mk hb; clear hb
  replace h := Option.bind_eq_some_iff.mp h
  obtain ⟨⟨c1, c2⟩, hc, h⟩ := h
  have Fc := Aside0.mk hc; clear hc; have HT := Aside0.mk (Option.some.inj h); clear h
  have R0 := Aside0.mk (show IsRec ((w.alloc (.cells #[.int .i64 10, .int .i64 x1, .int .i64 x2, .int .i64 x3, .int .i64 x4, .string k, .string o, .string n, .int .i64 x8, .slice A9 l9.length c9, .slice A10 l10.length c10, .int .i64 x11, .int .i64 x12] 33)).alloc (.cells #[.string ⟨#[]⟩, .int .i64 0] 120)) w.heap.size 10 x1 x2 x3 x4 k o n x8 (.slice A9 l9.length c9) (.slice A10 l10.length c10) x11 x12 from blk_alloc (blk_new w _) _)
  have I0 := Aside0.mk (show IsS114 w ((w.alloc (.cells #[.int .i64 10, .int .i64 x1, .int .i64 x2, .int .i64 x3, .int .i64 x4, .string k, .string o, .string n, .int .i64 x8, .slice A9 l9.length c9, .slice A10 l10.length c10, .int .i64 x11, .int .i64 x12] 33)).alloc (.cells #[.string ⟨#[]⟩, .int .i64 0] 120)) (w.heap.size + 1) ⟨#[]⟩ 0 from ⟨by have := blk_new (w.alloc (.cells #[.int .i64 10, .int .i64 x1, .int .i64 x2, .int .i64 x3, .int .i64 x4, .string k, .string o, .string n, .int .i64 x8, .slice A9 l9.length c9, .slice A10 l10.length c10, .int .i64 x11, .int .i64 x12] 33)) (.cells #[.string ⟨#[]⟩, .int .i64 0] 120); rw [show (w.alloc (.cells #[.int .i64 10, .int .i64 x1, .int .i64 x2, .int .i64 x3, .int .i64 x4, .string k, .string o, .string n, .int .i64 x8, .slice A9 l9.length c9, .slice A10 l10.length c10, .int .i64 x11, .int .i64 x12] 33)).heap.size = w.heap.size + 1 from by simp] at this; exact this, by omega⟩)
  have B0 := Aside0.mk (below_alloc (below_alloc (Below.refl w.heap.size w) (.cells #[.int .i64 10, .int .i64 x1, .int .i64 x2, .int .i64 x3, .int .i64 x4, .string k, .string o, .string n, .int .i64 x8, .slice A9 l9.length c9, .slice A10 l10.length c10, .int .i64 x11, .int .i64 x12] 33)) (.cells #[.string ⟨#[]⟩, .int .i64 0] 120))
  go_enter Tryz.func52, Tryz.ntmps52
  go_wp2_with fail
  refine (pack_Writer_Num.calls (w.heap.size + 1) ⟨#[]⟩ 0 10 1 a1 a2 w _ I0.out B0.out Fa.out).mono ?_
  rintro x W1 ⟨rfl, q1, q2, q3⟩
  have I1 := Aside0.mk q1; have B1 := Aside0.mk q2; have R1 := Aside0.mk (IsRec.keep R0.out q3 HNE.out); obtain ⟨zR1_0, zR1_1, zR1_2, zR1_3, zR1_4, zR1_5, zR1_6, zR1_7, zR1_8, zR1_9, zR1_10, zR1_11, zR1_12⟩ := IsRec.ats R1.out; clear q1 q2 q3
  go_wp2_with fail
  refine (pack_Writer_Num.calls (w.heap.size + 1) a1 a2 x11 4 b1 b2 w _ I1.out B1.out Fb.out).mono ?_
  rintro x W2 ⟨rfl, q1, q2, q3⟩
  have I2 := Aside0.mk q1; have B2 := Aside0.mk q2; have R2 := Aside0.mk (IsRec.keep R1.out q3 HNE.out); obtain ⟨zR2_0, zR2_1, zR2_2, zR2_3, zR2_4, zR2_5, zR2_6, zR2_7, zR2_8, zR2_9, zR2_10, zR2_11, zR2_12⟩ := IsRec.ats R2.out; clear q1 q2 q3
  go_wp2_with fail
  refine (pack_Writer_Num.calls (w.heap.size + 1) b1 b2 x12 1 c1 c2 w _ I2.out B2.out Fc.out).mono ?_
  rintro x W3 ⟨rfl, q1, q2, q3⟩
  have I3 := Aside0.mk q1; have B3 := Aside0.mk q2; have R3 := Aside0.mk (IsRec.keep R2.out q3 HNE.out); obtain ⟨zR3_0, zR3_1, zR3_2, zR3_3, zR3_4, zR3_5, zR3_6, zR3_7, zR3_8, zR3_9, zR3_10, zR3_11, zR3_12⟩ := IsRec.ats R3.out; clear q1 q2 q3
  go_wp2_with fail
  refine (pack_Writer_All.calls (w.heap.size + 1) c1 c2 c1 c2 c1 c2 w _ I3.out B3.out rfl).mono ?_
  rintro x W4 ⟨rfl, q1, q2, q3⟩
  have B4 := Aside0.mk q2; clear q1 q2 q3; have ht := HT.out
  unfold bodyTail at ht
  rw [if_pos rfl] at ht
  by_cases ht0 : c2 = 0
  · rw [ht0, if_pos rfl] at ht
    have t0 : (c2 == 0) = true := beq_iff_eq.mpr ht0
    have t1 : (c2 != 0) = false := bne_eq_false_iff_eq.mpr ht0
    by_cases hz : c1.size > 4096
    · rw [if_pos hz] at ht
      obtain ⟨rfl, rfl⟩ := Prod.mk.inj ht
      have t2 : decide (4096 < (c1.size : Int)) = true := decide_eq_true (by omega)
      have t3 : decide (4096 < c1.size) = true := decide_eq_true (by omega)
      go_wp2_with fail
      go_ret2
      exact ⟨rfl, B4.out⟩
    · rw [if_neg hz] at ht
      obtain ⟨rfl, rfl⟩ := Prod.mk.inj ht
      have t2 : decide (4096 < (c1.size : Int)) = false := decide_eq_false (by omega)
      have t3 : decide (4096 < c1.size) = false := decide_eq_false (by omega)
      go_wp2_with fail
      go_ret2
      exact ⟨rfl, B4.out⟩
  · rw [if_neg ht0] at ht
    obtain ⟨rfl, rfl⟩ := Prod.mk.inj ht
    have t0 : (c2 == 0) = false := beq_eq_false_iff_ne.mpr ht0
    have t1 : (c2 != 0) = true := bne_iff_ne.mpr ht0
    go_wp2_with fail
    go_ret2
    exact ⟨rfl, B4.out⟩
set_option maxHeartbeats 4000000 in
set_option maxRecDepth 100000 in
theorem body_2 (x1 x2 x3 x4 : Int) (k o n : ByteArray) (x8 : Int) (A9 : Option Addr) (c9 : Nat) (l9 : List S144) (A10 : Option Addr) (c10 : Nat) (l10 : List S36) (x11 x12 : Int) (r1 : ByteArray) (r2 : Int) (w : World) (hr9 : Kd.C k144 w A9 l9.length l9) (hc9 : l9.length ≤ c9) (hr10 : Kd.C k36 w A10 l10.length l10) (hc10 : l10.length ≤ c10)  (h : rec_body.f 2 x1 x2 x3 x4 k o n x8 l9 l10 x11 x12 = some (r1, r2)) :
    Calls Tryz.prog 52 #[.agg #[.int .i64 2, .int .i64 x1, .int .i64 x2, .int .i64 x3, .int .i64 x4, .string k, .string o, .string n, .int .i64 x8, .slice A9 l9.length c9, .slice A10 l10.length c10, .int .i64 x11, .int .i64 x12]] w fun e w' => e = .returned (.tuple #[.string r1, .int .i64 r2]) ∧ Below w.heap.size w w' := by
  have HR9 := Aside0.mk hr9; have HC9 := Aside0.mk hc9; have HR10 := Aside0.mk hr10; have HC10 := Aside0.mk hc10; clear hr9 hc9 hr10 hc10
  have HNE := Aside0.mk (show w.heap.size ≠ w.heap.size + 1 by omega)
  unfold rec_body.f at h
  replace h := Option.bind_eq_some_iff.mp h
  obtain ⟨⟨a1, a2⟩, ha, h⟩ := h
  have Fa := Aside0.mk ha; clear ha
  rw [if_neg (by decide), if_pos (by decide)] at h
  replace h := Option.bind_eq_some_iff.mp h
  obtain ⟨⟨i, i1, i2⟩, hi, h⟩ := h
  have Fi := Aside0.mk hi; clear hi; have HT := Aside0.mk (Option.some.inj h); clear h
  have R0 := Aside0.mk (show IsRec ((w.alloc (.cells #[.int .i64 2, .int .i64 x1, .int .i64 x2, .int .i64 x3, .int .i64 x4, .string k, .string o, .string n, .int .i64 x8, .slice A9 l9.length c9, .slice A10 l10.length c10, .int .i64 x11, .int .i64 x12] 33)).alloc (.cells #[.string ⟨#[]⟩, .int .i64 0] 120)) w.heap.size 2 x1 x2 x3 x4 k o n x8 (.slice A9 l9.length c9) (.slice A10 l10.length c10) x11 x12 from blk_alloc (blk_new w _) _)
  have I0 := Aside0.mk (show IsS114 w ((w.alloc (.cells #[.int .i64 2, .int .i64 x1, .int .i64 x2, .int .i64 x3, .int .i64 x4, .string k, .string o, .string n, .int .i64 x8, .slice A9 l9.length c9, .slice A10 l10.length c10, .int .i64 x11, .int .i64 x12] 33)).alloc (.cells #[.string ⟨#[]⟩, .int .i64 0] 120)) (w.heap.size + 1) ⟨#[]⟩ 0 from ⟨by have := blk_new (w.alloc (.cells #[.int .i64 2, .int .i64 x1, .int .i64 x2, .int .i64 x3, .int .i64 x4, .string k, .string o, .string n, .int .i64 x8, .slice A9 l9.length c9, .slice A10 l10.length c10, .int .i64 x11, .int .i64 x12] 33)) (.cells #[.string ⟨#[]⟩, .int .i64 0] 120); rw [show (w.alloc (.cells #[.int .i64 2, .int .i64 x1, .int .i64 x2, .int .i64 x3, .int .i64 x4, .string k, .string o, .string n, .int .i64 x8, .slice A9 l9.length c9, .slice A10 l10.length c10, .int .i64 x11, .int .i64 x12] 33)).heap.size = w.heap.size + 1 from by simp] at this; exact this, by omega⟩)
  have B0 := Aside0.mk (below_alloc (below_alloc (Below.refl w.heap.size w) (.cells #[.int .i64 2, .int .i64 x1, .int .i64 x2, .int .i64 x3, .int .i64 x4, .string k, .string o, .string n, .int .i64 x8, .slice A9 l9.length c9, .slice A10 l10.length c10, .int .i64 x11, .int .i64 x12] 33)) (.cells #[.string ⟨#[]⟩, .int .i64 0] 120))
  go_enter Tryz.func52, Tryz.ntmps52
  go_wp2_with fail
  refine (pack_Writer_Num.calls (w.heap.size + 1) ⟨#[]⟩ 0 2 1 a1 a2 w _ I0.out B0.out Fa.out).mono ?_
  rintro x W1 ⟨rfl, q1, q2, q3⟩
  have I1 := Aside0.mk q1; have B1 := Aside0.mk q2; have R1 := Aside0.mk (IsRec.keep R0.out q3 HNE.out); obtain ⟨zR1_0, zR1_1, zR1_2, zR1_3, zR1_4, zR1_5, zR1_6, zR1_7, zR1_8, zR1_9, zR1_10, zR1_11, zR1_12⟩ := IsRec.ats R1.out; clear q1 q2 q3
  go_wp2_with fail
  refine (rec_images.calls (l9.length + 5) (w.heap.size + 1) a1 a2 A9 c9 l9 i i1 i2 w _ I1.out B1.out (fun W_ hk => C_keep HR9.out (fun _ _ hz => by obtain rfl := k144_open hz; exact k144_mk _ _) B1.out hk (by omega)) HC9.out Fi.out).mono ?_
  rintro x W2 ⟨rfl, q1, q2, q3⟩
  have I2 := Aside0.mk q1; have B2 := Aside0.mk q2; have R2 := Aside0.mk (IsRec.keep R1.out q3 HNE.out); obtain ⟨zR2_0, zR2_1, zR2_2, zR2_3, zR2_4, zR2_5, zR2_6, zR2_7, zR2_8, zR2_9, zR2_10, zR2_11, zR2_12⟩ := IsRec.ats R2.out; clear q1 q2 q3
  go_wp2_with fail
  refine (pack_Writer_All.calls (w.heap.size + 1) i1 i2 i1 i2 i1 i2 w _ I2.out B2.out rfl).mono ?_
  rintro x W3 ⟨rfl, q1, q2, q3⟩
  have B3 := Aside0.mk q2; clear q1 q2 q3; have ht := HT.out
  unfold bodyTail at ht
  by_cases he0 : i = 0
  · rw [if_pos he0] at ht
    have e0 : (i == 0) = true := beq_iff_eq.mpr he0
    have e1 : (i != 0) = false := bne_eq_false_iff_eq.mpr he0
    by_cases ht0 : i2 = 0
    · rw [ht0, if_pos rfl] at ht
      have t0 : (i2 == 0) = true := beq_iff_eq.mpr ht0
      have t1 : (i2 != 0) = false := bne_eq_false_iff_eq.mpr ht0
      by_cases hz : i1.size > 4096
      · rw [if_pos hz] at ht
        obtain ⟨rfl, rfl⟩ := Prod.mk.inj ht
        have t2 : decide (4096 < (i1.size : Int)) = true := decide_eq_true (by omega)
        have t3 : decide (4096 < i1.size) = true := decide_eq_true (by omega)
        go_wp2_with fail
        go_ret2
        exact ⟨rfl, B3.out⟩
      · rw [if_neg hz] at ht
        obtain ⟨rfl, rfl⟩ := Prod.mk.inj ht
        have t2 : decide (4096 < (i1.size : Int)) = false := decide_eq_false (by omega)
        have t3 : decide (4096 < i1.size) = false := decide_eq_false (by omega)
        go_wp2_with fail
        go_ret2
        exact ⟨rfl, B3.out⟩
    · rw [if_neg ht0] at ht
      obtain ⟨rfl, rfl⟩ := Prod.mk.inj ht
      have t0 : (i2 == 0) = false := beq_eq_false_iff_ne.mpr ht0
      have t1 : (i2 != 0) = true := bne_iff_ne.mpr ht0
      go_wp2_with fail
      go_ret2
      exact ⟨rfl, B3.out⟩
  · rw [if_neg he0] at ht
    have e0 : (i == 0) = false := beq_eq_false_iff_ne.mpr he0
    have e1 : (i != 0) = true := bne_iff_ne.mpr he0
    rw [if_neg he0] at ht
    obtain ⟨rfl, rfl⟩ := Prod.mk.inj ht
    go_wp2_with fail
    go_ret2
    exact ⟨rfl, B3.out⟩
set_option maxHeartbeats 4000000 in
set_option maxRecDepth 100000 in
theorem body_345 (x0 : Int) (hk : x0 = 3 ∨ x0 = 4 ∨ x0 = 5) (x1 x2 x3 x4 : Int) (k o n : ByteArray) (x8 : Int) (A9 : Option Addr) (c9 : Nat) (l9 : List S144) (A10 : Option Addr) (c10 : Nat) (l10 : List S36) (x11 x12 : Int) (r1 : ByteArray) (r2 : Int) (w : World) (hr9 : Kd.C k144 w A9 l9.length l9) (hc9 : l9.length ≤ c9) (hr10 : Kd.C k36 w A10 l10.length l10) (hc10 : l10.length ≤ c10)  (h : rec_body.f x0 x1 x2 x3 x4 k o n x8 l9 l10 x11 x12 = some (r1, r2)) :
    Calls Tryz.prog 52 #[.agg #[.int .i64 x0, .int .i64 x1, .int .i64 x2, .int .i64 x3, .int .i64 x4, .string k, .string o, .string n, .int .i64 x8, .slice A9 l9.length c9, .slice A10 l10.length c10, .int .i64 x11, .int .i64 x12]] w fun e w' => e = .returned (.tuple #[.string r1, .int .i64 r2]) ∧ Below w.heap.size w w' := by
  have HR9 := Aside0.mk hr9; have HC9 := Aside0.mk hc9; have HR10 := Aside0.mk hr10; have HC10 := Aside0.mk hc10; clear hr9 hc9 hr10 hc10
  have HNE := Aside0.mk (show w.heap.size ≠ w.heap.size + 1 by omega)
  unfold rec_body.f at h
  replace h := Option.bind_eq_some_iff.mp h
  obtain ⟨⟨a1, a2⟩, ha, h⟩ := h
  have Fa := Aside0.mk ha; clear ha
  rw [if_neg (by omega), if_neg (by omega), if_neg (by omega), if_pos (by omega)] at h
  replace h := Option.bind_eq_some_iff.mp h
  obtain ⟨e, he, h⟩ := h
  have Fe := Aside0.mk he; clear he
  replace h := Option.bind_eq_some_iff.mp h
  obtain ⟨⟨b1, b2⟩, hb, h⟩ := h
  have Fb := Aside0.mk hb; clear hb
  replace h := Option.bind_eq_some_iff.mp h
  obtain ⟨⟨u1, u2⟩, hu, h⟩ := h
  have Fu := Aside0.mk hu; clear hu; have HT := Aside0.mk (Option.some.inj h); clear h
  have R0 := Aside0.mk (show IsRec ((w.alloc (.cells #[.int .i64 x0, .int .i64 x1, .int .i64 x2, .int .i64 x3, .int .i64 x4, .string k, .string o, .string n, .int .i64 x8, .slice A9 l9.length c9, .slice A10 l10.length c10, .int .i64 x11, .int .i64 x12] 33)).alloc (.cells #[.string ⟨#[]⟩, .int .i64 0] 120)) w.heap.size x0 x1 x2 x3 x4 k o n x8 (.slice A9 l9.length c9) (.slice A10 l10.length c10) x11 x12 from blk_alloc (blk_new w _) _)
  have I0 := Aside0.mk (show IsS114 w ((w.alloc (.cells #[.int .i64 x0, .int .i64 x1, .int .i64 x2, .int .i64 x3, .int .i64 x4, .string k, .string o, .string n, .int .i64 x8, .slice A9 l9.length c9, .slice A10 l10.length c10, .int .i64 x11, .int .i64 x12] 33)).alloc (.cells #[.string ⟨#[]⟩, .int .i64 0] 120)) (w.heap.size + 1) ⟨#[]⟩ 0 from ⟨by have := blk_new (w.alloc (.cells #[.int .i64 x0, .int .i64 x1, .int .i64 x2, .int .i64 x3, .int .i64 x4, .string k, .string o, .string n, .int .i64 x8, .slice A9 l9.length c9, .slice A10 l10.length c10, .int .i64 x11, .int .i64 x12] 33)) (.cells #[.string ⟨#[]⟩, .int .i64 0] 120); rw [show (w.alloc (.cells #[.int .i64 x0, .int .i64 x1, .int .i64 x2, .int .i64 x3, .int .i64 x4, .string k, .string o, .string n, .int .i64 x8, .slice A9 l9.length c9, .slice A10 l10.length c10, .int .i64 x11, .int .i64 x12] 33)).heap.size = w.heap.size + 1 from by simp] at this; exact this, by omega⟩)
  have B0 := Aside0.mk (below_alloc (below_alloc (Below.refl w.heap.size w) (.cells #[.int .i64 x0, .int .i64 x1, .int .i64 x2, .int .i64 x3, .int .i64 x4, .string k, .string o, .string n, .int .i64 x8, .slice A9 l9.length c9, .slice A10 l10.length c10, .int .i64 x11, .int .i64 x12] 33)) (.cells #[.string ⟨#[]⟩, .int .i64 0] 120))
  rcases hk with hk | hk | hk
  all_goals
    have t1 : (x0 == 1) = false := beq_eq_false_iff_ne.mpr (by omega)
    have t2 : (x0 == 2) = false := beq_eq_false_iff_ne.mpr (by omega)
    have t6 : (x0 == 6) = false := beq_eq_false_iff_ne.mpr (by omega)
    have t7 : (x0 == 7) = false := beq_eq_false_iff_ne.mpr (by omega)
    have t8 : (x0 == 8) = false := beq_eq_false_iff_ne.mpr (by omega)
    have t9 : (x0 == 9) = false := beq_eq_false_iff_ne.mpr (by omega)
    have t10 : (x0 == 10) = false := beq_eq_false_iff_ne.mpr (by omega)
    first | have t3 : (x0 == 3) = true := beq_iff_eq.mpr (by omega) | have t3 : (x0 == 3) = false := beq_eq_false_iff_ne.mpr (by omega)
    first | have t4 : (x0 == 4) = true := beq_iff_eq.mpr (by omega) | have t4 : (x0 == 4) = false := beq_eq_false_iff_ne.mpr (by omega)
    first | have t5 : (x0 == 5) = true := beq_iff_eq.mpr (by omega) | have t5 : (x0 == 5) = false := beq_eq_false_iff_ne.mpr (by omega)
    clear hk
    go_enter Tryz.func52, Tryz.ntmps52
    go_wp2_with fail
    refine (pack_Writer_Num.calls (w.heap.size + 1) ⟨#[]⟩ 0 x0 1 a1 a2 w _ I0.out B0.out Fa.out).mono ?_
    rintro x W1 ⟨rfl, q1, q2, q3⟩
    have I1 := Aside0.mk q1; have B1 := Aside0.mk q2; have R1 := Aside0.mk (IsRec.keep R0.out q3 HNE.out); obtain ⟨zR1_0, zR1_1, zR1_2, zR1_3, zR1_4, zR1_5, zR1_6, zR1_7, zR1_8, zR1_9, zR1_10, zR1_11, zR1_12⟩ := IsRec.ats R1.out; clear q1 q2 q3
    go_wp2_with fail
    refine (rec_cut.calls 10 k _ _ [o, n] e _ (strs2 _ _ o n) (by simp) Fe.out).mono ?_
    rintro x W2 ⟨rfl, ⟨nd, rfl⟩⟩
    have I2 := Aside0.mk ((IsS114.alloc I1.out (.cells #[.string o, .string n] 9)).drewN nd)
    have B2 := Aside0.mk (pw_below_drewN (below_alloc B1.out (.cells #[.string o, .string n] 9)) nd)
    have R2 := Aside0.mk (show IsRec (World.drewN (World.alloc _ (.cells #[.string o, .string n] 9)) nd) w.heap.size x0 x1 x2 x3 x4 k o n x8 (.slice A9 l9.length c9) (.slice A10 l10.length c10) x11 x12 from IsRec.below R1.out (pw_below_drewN (below_alloc (Below.refl _ _) (.cells #[.string o, .string n] 9)) nd))
    obtain ⟨zR2_0, zR2_1, zR2_2, zR2_3, zR2_4, zR2_5, zR2_6, zR2_7, zR2_8, zR2_9, zR2_10, zR2_11, zR2_12⟩ := IsRec.ats R2.out
    go_wp2_with fail
    refine (rec_link.calls (w.heap.size + 1) a1 a2 x0 x1 x2 x3 x4 k o n x8 A9 c9 l9 A10 c10 l10 x11 x12 b1 b2 w _ I2.out B2.out (fun W_ hk => C_keep HR9.out (fun _ _ hz => by obtain rfl := k144_open hz; exact k144_mk _ _) B2.out hk (by omega)) HC9.out (fun W_ hk => C_keep HR10.out (fun _ _ hz => by obtain rfl := k36_open hz; exact k36_mk _ _) B2.out hk (by omega)) HC10.out Fb.out).mono ?_
    rintro x W3 ⟨rfl, q1, q2, q3⟩
    have I3 := Aside0.mk q1; have B3 := Aside0.mk q2; have R3 := Aside0.mk (IsRec.keep R2.out q3 HNE.out); obtain ⟨zR3_0, zR3_1, zR3_2, zR3_3, zR3_4, zR3_5, zR3_6, zR3_7, zR3_8, zR3_9, zR3_10, zR3_11, zR3_12⟩ := IsRec.ats R3.out; clear q1 q2 q3
    go_wp2_with fail
    refine (rec_change.calls (w.heap.size + 1) b1 b2 x0 x1 x2 x3 x4 k o n x8 A9 l9.length c9 l9 A10 l10.length c10 l10 x11 x12 x0 u1 u2 w _ I3.out B3.out Fu.out).mono ?_
    rintro x W4 ⟨rfl, q1, q2, q3⟩
    have I4 := Aside0.mk q1; have B4 := Aside0.mk q2; have R4 := Aside0.mk (IsRec.keep R3.out q3 HNE.out); obtain ⟨zR4_0, zR4_1, zR4_2, zR4_3, zR4_4, zR4_5, zR4_6, zR4_7, zR4_8, zR4_9, zR4_10, zR4_11, zR4_12⟩ := IsRec.ats R4.out; clear q1 q2 q3
    go_wp2_with fail
    refine (pack_Writer_All.calls (w.heap.size + 1) u1 u2 u1 u2 u1 u2 w _ I4.out B4.out rfl).mono ?_
    rintro x W5 ⟨rfl, q1, q2, q3⟩
    have B5 := Aside0.mk q2; clear q1 q2 q3; have ht := HT.out
    unfold bodyTail at ht
    by_cases he0 : e = 0
    · rw [if_pos he0] at ht
      have e0 : (e == 0) = true := beq_iff_eq.mpr he0
      have e1 : (e != 0) = false := bne_eq_false_iff_eq.mpr he0
      by_cases ht0 : u2 = 0
      · rw [ht0, if_pos rfl] at ht
        have t0 : (u2 == 0) = true := beq_iff_eq.mpr ht0
        have t1 : (u2 != 0) = false := bne_eq_false_iff_eq.mpr ht0
        by_cases hz : u1.size > 4096
        · rw [if_pos hz] at ht
          obtain ⟨rfl, rfl⟩ := Prod.mk.inj ht
          have t2 : decide (4096 < (u1.size : Int)) = true := decide_eq_true (by omega)
          have t3 : decide (4096 < u1.size) = true := decide_eq_true (by omega)
          go_wp2_with fail
          go_ret2
          exact ⟨rfl, B5.out⟩
        · rw [if_neg hz] at ht
          obtain ⟨rfl, rfl⟩ := Prod.mk.inj ht
          have t2 : decide (4096 < (u1.size : Int)) = false := decide_eq_false (by omega)
          have t3 : decide (4096 < u1.size) = false := decide_eq_false (by omega)
          go_wp2_with fail
          go_ret2
          exact ⟨rfl, B5.out⟩
      · rw [if_neg ht0] at ht
        obtain ⟨rfl, rfl⟩ := Prod.mk.inj ht
        have t0 : (u2 == 0) = false := beq_eq_false_iff_ne.mpr ht0
        have t1 : (u2 != 0) = true := bne_iff_ne.mpr ht0
        go_wp2_with fail
        go_ret2
        exact ⟨rfl, B5.out⟩
    · rw [if_neg he0] at ht
      have e0 : (e == 0) = false := beq_eq_false_iff_ne.mpr he0
      have e1 : (e != 0) = true := bne_iff_ne.mpr he0
      rw [if_neg he0] at ht
      obtain ⟨rfl, rfl⟩ := Prod.mk.inj ht
      go_wp2_with fail
      go_ret2
      exact ⟨rfl, B5.out⟩
set_option maxHeartbeats 4000000 in
set_option maxRecDepth 100000 in
theorem body_1 (x1 x2 x3 x4 : Int) (k o n : ByteArray) (x8 : Int) (A9 : Option Addr) (c9 : Nat) (l9 : List S144) (A10 : Option Addr) (c10 : Nat) (l10 : List S36) (x11 x12 : Int) (r1 : ByteArray) (r2 : Int) (w : World) (hr9 : Kd.C k144 w A9 l9.length l9) (hc9 : l9.length ≤ c9) (hr10 : Kd.C k36 w A10 l10.length l10) (hc10 : l10.length ≤ c10)  (h : rec_body.f 1 x1 x2 x3 x4 k o n x8 l9 l10 x11 x12 = some (r1, r2)) :
    Calls Tryz.prog 52 #[.agg #[.int .i64 1, .int .i64 x1, .int .i64 x2, .int .i64 x3, .int .i64 x4, .string k, .string o, .string n, .int .i64 x8, .slice A9 l9.length c9, .slice A10 l10.length c10, .int .i64 x11, .int .i64 x12]] w fun e w' => e = .returned (.tuple #[.string r1, .int .i64 r2]) ∧ Below w.heap.size w w' := by
  have HR9 := Aside0.mk hr9; have HC9 := Aside0.mk hc9; have HR10 := Aside0.mk hr10; have HC10 := Aside0.mk hc10; clear hr9 hc9 hr10 hc10
  have HNE := Aside0.mk (show w.heap.size ≠ w.heap.size + 1 by omega)
  unfold rec_body.f at h
  replace h := Option.bind_eq_some_iff.mp h
  obtain ⟨⟨a1, a2⟩, ha, h⟩ := h
  have Fa := Aside0.mk ha; clear ha
  rw [if_pos (by decide)] at h
  by_cases hl : l9.length = 1
  · rw [if_pos hl] at h
    have n0 : ((l9.length : Int) == 1) = true := beq_iff_eq.mpr (by omega)
    have n1 : ((l9.length : Int) != 1) = false := bne_eq_false_iff_eq.mpr (by omega)
    clear hl
    replace h := Option.bind_eq_some_iff.mp h
    obtain ⟨⟨i, i1, i2⟩, hi, h⟩ := h
    have Fi := Aside0.mk hi; clear hi; have HT := Aside0.mk (Option.some.inj h); clear h
    have R0 := Aside0.mk (show IsRec ((w.alloc (.cells #[.int .i64 1, .int .i64 x1, .int .i64 x2, .int .i64 x3, .int .i64 x4, .string k, .string o, .string n, .int .i64 x8, .slice A9 l9.length c9, .slice A10 l10.length c10, .int .i64 x11, .int .i64 x12] 33)).alloc (.cells #[.string ⟨#[]⟩, .int .i64 0] 120)) w.heap.size 1 x1 x2 x3 x4 k o n x8 (.slice A9 l9.length c9) (.slice A10 l10.length c10) x11 x12 from blk_alloc (blk_new w _) _)
    have I0 := Aside0.mk (show IsS114 w ((w.alloc (.cells #[.int .i64 1, .int .i64 x1, .int .i64 x2, .int .i64 x3, .int .i64 x4, .string k, .string o, .string n, .int .i64 x8, .slice A9 l9.length c9, .slice A10 l10.length c10, .int .i64 x11, .int .i64 x12] 33)).alloc (.cells #[.string ⟨#[]⟩, .int .i64 0] 120)) (w.heap.size + 1) ⟨#[]⟩ 0 from ⟨by have := blk_new (w.alloc (.cells #[.int .i64 1, .int .i64 x1, .int .i64 x2, .int .i64 x3, .int .i64 x4, .string k, .string o, .string n, .int .i64 x8, .slice A9 l9.length c9, .slice A10 l10.length c10, .int .i64 x11, .int .i64 x12] 33)) (.cells #[.string ⟨#[]⟩, .int .i64 0] 120); rw [show (w.alloc (.cells #[.int .i64 1, .int .i64 x1, .int .i64 x2, .int .i64 x3, .int .i64 x4, .string k, .string o, .string n, .int .i64 x8, .slice A9 l9.length c9, .slice A10 l10.length c10, .int .i64 x11, .int .i64 x12] 33)).heap.size = w.heap.size + 1 from by simp] at this; exact this, by omega⟩)
    have B0 := Aside0.mk (below_alloc (below_alloc (Below.refl w.heap.size w) (.cells #[.int .i64 1, .int .i64 x1, .int .i64 x2, .int .i64 x3, .int .i64 x4, .string k, .string o, .string n, .int .i64 x8, .slice A9 l9.length c9, .slice A10 l10.length c10, .int .i64 x11, .int .i64 x12] 33)) (.cells #[.string ⟨#[]⟩, .int .i64 0] 120))
    go_enter Tryz.func52, Tryz.ntmps52
    go_wp2_with fail
    refine (pack_Writer_Num.calls (w.heap.size + 1) ⟨#[]⟩ 0 1 1 a1 a2 w _ I0.out B0.out Fa.out).mono ?_
    rintro x W1 ⟨rfl, q1, q2, q3⟩
    have I1 := Aside0.mk q1; have B1 := Aside0.mk q2; have R1 := Aside0.mk (IsRec.keep R0.out q3 HNE.out); obtain ⟨zR1_0, zR1_1, zR1_2, zR1_3, zR1_4, zR1_5, zR1_6, zR1_7, zR1_8, zR1_9, zR1_10, zR1_11, zR1_12⟩ := IsRec.ats R1.out; clear q1 q2 q3
    go_wp2_with fail
    refine (rec_images.calls (l9.length + 5) (w.heap.size + 1) a1 a2 A9 c9 l9 i i1 i2 w _ I1.out B1.out (fun W_ hk => C_keep HR9.out (fun _ _ hz => by obtain rfl := k144_open hz; exact k144_mk _ _) B1.out hk (by omega)) HC9.out Fi.out).mono ?_
    rintro x W2 ⟨rfl, q1, q2, q3⟩
    have I2 := Aside0.mk q1; have B2 := Aside0.mk q2; have R2 := Aside0.mk (IsRec.keep R1.out q3 HNE.out); obtain ⟨zR2_0, zR2_1, zR2_2, zR2_3, zR2_4, zR2_5, zR2_6, zR2_7, zR2_8, zR2_9, zR2_10, zR2_11, zR2_12⟩ := IsRec.ats R2.out; clear q1 q2 q3
    go_wp2_with fail
    refine (pack_Writer_All.calls (w.heap.size + 1) i1 i2 i1 i2 i1 i2 w _ I2.out B2.out rfl).mono ?_
    rintro x W3 ⟨rfl, q1, q2, q3⟩
    have B3 := Aside0.mk q2; clear q1 q2 q3; have ht := HT.out
    unfold bodyTail at ht
    by_cases he0 : i = 0
    · rw [if_pos he0] at ht
      have e0 : (i == 0) = true := beq_iff_eq.mpr he0
      have e1 : (i != 0) = false := bne_eq_false_iff_eq.mpr he0
      by_cases ht0 : i2 = 0
      · rw [ht0, if_pos rfl] at ht
        have t0 : (i2 == 0) = true := beq_iff_eq.mpr ht0
        have t1 : (i2 != 0) = false := bne_eq_false_iff_eq.mpr ht0
        by_cases hz : i1.size > 4096
        · rw [if_pos hz] at ht
          obtain ⟨rfl, rfl⟩ := Prod.mk.inj ht
          have t2 : decide (4096 < (i1.size : Int)) = true := decide_eq_true (by omega)
          have t3 : decide (4096 < i1.size) = true := decide_eq_true (by omega)
          go_wp2_with fail
          go_ret2
          exact ⟨rfl, B3.out⟩
        · rw [if_neg hz] at ht
          obtain ⟨rfl, rfl⟩ := Prod.mk.inj ht
          have t2 : decide (4096 < (i1.size : Int)) = false := decide_eq_false (by omega)
          have t3 : decide (4096 < i1.size) = false := decide_eq_false (by omega)
          go_wp2_with fail
          go_ret2
          exact ⟨rfl, B3.out⟩
      · rw [if_neg ht0] at ht
        obtain ⟨rfl, rfl⟩ := Prod.mk.inj ht
        have t0 : (i2 == 0) = false := beq_eq_false_iff_ne.mpr ht0
        have t1 : (i2 != 0) = true := bne_iff_ne.mpr ht0
        go_wp2_with fail
        go_ret2
        exact ⟨rfl, B3.out⟩
    · rw [if_neg he0] at ht
      have e0 : (i == 0) = false := beq_eq_false_iff_ne.mpr he0
      have e1 : (i != 0) = true := bne_iff_ne.mpr he0
      rw [if_neg he0] at ht
      obtain ⟨rfl, rfl⟩ := Prod.mk.inj ht
      go_wp2_with fail
      go_ret2
      exact ⟨rfl, B3.out⟩
  · rw [if_neg hl] at h
    obtain ⟨rfl, rfl⟩ := Prod.mk.inj (Option.some.inj h)
    clear h
    have n0 : ((l9.length : Int) == 1) = false := beq_eq_false_iff_ne.mpr (by omega)
    have n1 : ((l9.length : Int) != 1) = true := bne_iff_ne.mpr (by omega)
    have R0 := Aside0.mk (show IsRec ((w.alloc (.cells #[.int .i64 1, .int .i64 x1, .int .i64 x2, .int .i64 x3, .int .i64 x4, .string k, .string o, .string n, .int .i64 x8, .slice A9 l9.length c9, .slice A10 l10.length c10, .int .i64 x11, .int .i64 x12] 33)).alloc (.cells #[.string ⟨#[]⟩, .int .i64 0] 120)) w.heap.size 1 x1 x2 x3 x4 k o n x8 (.slice A9 l9.length c9) (.slice A10 l10.length c10) x11 x12 from blk_alloc (blk_new w _) _)
    have I0 := Aside0.mk (show IsS114 w ((w.alloc (.cells #[.int .i64 1, .int .i64 x1, .int .i64 x2, .int .i64 x3, .int .i64 x4, .string k, .string o, .string n, .int .i64 x8, .slice A9 l9.length c9, .slice A10 l10.length c10, .int .i64 x11, .int .i64 x12] 33)).alloc (.cells #[.string ⟨#[]⟩, .int .i64 0] 120)) (w.heap.size + 1) ⟨#[]⟩ 0 from ⟨by have := blk_new (w.alloc (.cells #[.int .i64 1, .int .i64 x1, .int .i64 x2, .int .i64 x3, .int .i64 x4, .string k, .string o, .string n, .int .i64 x8, .slice A9 l9.length c9, .slice A10 l10.length c10, .int .i64 x11, .int .i64 x12] 33)) (.cells #[.string ⟨#[]⟩, .int .i64 0] 120); rw [show (w.alloc (.cells #[.int .i64 1, .int .i64 x1, .int .i64 x2, .int .i64 x3, .int .i64 x4, .string k, .string o, .string n, .int .i64 x8, .slice A9 l9.length c9, .slice A10 l10.length c10, .int .i64 x11, .int .i64 x12] 33)).heap.size = w.heap.size + 1 from by simp] at this; exact this, by omega⟩)
    have B0 := Aside0.mk (below_alloc (below_alloc (Below.refl w.heap.size w) (.cells #[.int .i64 1, .int .i64 x1, .int .i64 x2, .int .i64 x3, .int .i64 x4, .string k, .string o, .string n, .int .i64 x8, .slice A9 l9.length c9, .slice A10 l10.length c10, .int .i64 x11, .int .i64 x12] 33)) (.cells #[.string ⟨#[]⟩, .int .i64 0] 120))
    go_enter Tryz.func52, Tryz.ntmps52
    go_wp2_with fail
    refine (pack_Writer_Num.calls (w.heap.size + 1) ⟨#[]⟩ 0 1 1 a1 a2 w _ I0.out B0.out Fa.out).mono ?_
    rintro x W1 ⟨rfl, q1, q2, q3⟩
    have I1 := Aside0.mk q1; have B1 := Aside0.mk q2; have R1 := Aside0.mk (IsRec.keep R0.out q3 HNE.out); obtain ⟨zR1_0, zR1_1, zR1_2, zR1_3, zR1_4, zR1_5, zR1_6, zR1_7, zR1_8, zR1_9, zR1_10, zR1_11, zR1_12⟩ := IsRec.ats R1.out; clear q1 q2 q3
    go_wp2_with fail
    go_ret2
    exact ⟨rfl, B1.out⟩
set_option maxHeartbeats 4000000 in
set_option maxRecDepth 100000 in
theorem body_6 (x1 x2 x3 x4 : Int) (k o n : ByteArray) (x8 : Int) (A9 : Option Addr) (c9 : Nat) (l9 : List S144) (A10 : Option Addr) (c10 : Nat) (l10 : List S36) (x11 x12 : Int) (r1 : ByteArray) (r2 : Int) (w : World) (hr9 : Kd.C k144 w A9 l9.length l9) (hc9 : l9.length ≤ c9) (hr10 : Kd.C k36 w A10 l10.length l10) (hc10 : l10.length ≤ c10)  (h : rec_body.f 6 x1 x2 x3 x4 k o n x8 l9 l10 x11 x12 = some (r1, r2)) :
    Calls Tryz.prog 52 #[.agg #[.int .i64 6, .int .i64 x1, .int .i64 x2, .int .i64 x3, .int .i64 x4, .string k, .string o, .string n, .int .i64 x8, .slice A9 l9.length c9, .slice A10 l10.length c10, .int .i64 x11, .int .i64 x12]] w fun e w' => e = .returned (.tuple #[.string r1, .int .i64 r2]) ∧ Below w.heap.size w w' := by
  have HR9 := Aside0.mk hr9; have HC9 := Aside0.mk hc9; have HR10 := Aside0.mk hr10; have HC10 := Aside0.mk hc10; clear hr9 hc9 hr10 hc10
  have HNE := Aside0.mk (show w.heap.size ≠ w.heap.size + 1 by omega)
  unfold rec_body.f at h
  replace h := Option.bind_eq_some_iff.mp h
  obtain ⟨⟨a1, a2⟩, ha, h⟩ := h
  have Fa := Aside0.mk ha; clear ha
  rw [if_neg (by decide), if_neg (by decide), if_pos (by decide)] at h
  by_cases ha : 3 ≤ x4 ∧ x4 ≤ 5
  · rw [if_pos ha] at h
    replace h := Option.bind_eq_some_iff.mp h
    obtain ⟨e, he, h⟩ := h
    have Fe := Aside0.mk he; clear he
    replace h := Option.bind_eq_some_iff.mp h
    obtain ⟨⟨b1, b2⟩, hb, h⟩ := h
    have Fb := Aside0.mk hb; clear hb
    replace h := Option.bind_eq_some_iff.mp h
    obtain ⟨⟨c1, c2⟩, hc, h⟩ := h
    have Fc := Aside0.mk hc; clear hc
    replace h := Option.bind_eq_some_iff.mp h
    obtain ⟨⟨d1, d2⟩, hd, h⟩ := h
    have Fd := Aside0.mk hd; clear hd
    replace h := Option.bind_eq_some_iff.mp h
    obtain ⟨⟨u1, u2⟩, hu, h⟩ := h
    have Fu := Aside0.mk hu; clear hu; have HT := Aside0.mk (Option.some.inj h); clear h
    have n0 : decide (x4 < 3) = false := decide_eq_false (by omega)
    have n1 : decide (5 < x4) = false := decide_eq_false (by omega)
    have R0 := Aside0.mk (show IsRec ((w.alloc (.cells #[.int .i64 6, .int .i64 x1, .int .i64 x2, .int .i64 x3, .int .i64 x4, .string k, .string o, .string n, .int .i64 x8, .slice A9 l9.length c9, .slice A10 l10.length c10, .int .i64 x11, .int .i64 x12] 33)).alloc (.cells #[.string ⟨#[]⟩, .int .i64 0] 120)) w.heap.size 6 x1 x2 x3 x4 k o n x8 (.slice A9 l9.length c9) (.slice A10 l10.length c10) x11 x12 from blk_alloc (blk_new w _) _)
    have I0 := Aside0.mk (show IsS114 w ((w.alloc (.cells #[.int .i64 6, .int .i64 x1, .int .i64 x2, .int .i64 x3, .int .i64 x4, .string k, .string o, .string n, .int .i64 x8, .slice A9 l9.length c9, .slice A10 l10.length c10, .int .i64 x11, .int .i64 x12] 33)).alloc (.cells #[.string ⟨#[]⟩, .int .i64 0] 120)) (w.heap.size + 1) ⟨#[]⟩ 0 from ⟨by have := blk_new (w.alloc (.cells #[.int .i64 6, .int .i64 x1, .int .i64 x2, .int .i64 x3, .int .i64 x4, .string k, .string o, .string n, .int .i64 x8, .slice A9 l9.length c9, .slice A10 l10.length c10, .int .i64 x11, .int .i64 x12] 33)) (.cells #[.string ⟨#[]⟩, .int .i64 0] 120); rw [show (w.alloc (.cells #[.int .i64 6, .int .i64 x1, .int .i64 x2, .int .i64 x3, .int .i64 x4, .string k, .string o, .string n, .int .i64 x8, .slice A9 l9.length c9, .slice A10 l10.length c10, .int .i64 x11, .int .i64 x12] 33)).heap.size = w.heap.size + 1 from by simp] at this; exact this, by omega⟩)
    have B0 := Aside0.mk (below_alloc (below_alloc (Below.refl w.heap.size w) (.cells #[.int .i64 6, .int .i64 x1, .int .i64 x2, .int .i64 x3, .int .i64 x4, .string k, .string o, .string n, .int .i64 x8, .slice A9 l9.length c9, .slice A10 l10.length c10, .int .i64 x11, .int .i64 x12] 33)) (.cells #[.string ⟨#[]⟩, .int .i64 0] 120))
    go_enter Tryz.func52, Tryz.ntmps52
    go_wp2_with fail
    refine (pack_Writer_Num.calls (w.heap.size + 1) ⟨#[]⟩ 0 6 1 a1 a2 w _ I0.out B0.out Fa.out).mono ?_
    rintro x W1 ⟨rfl, q1, q2, q3⟩
    have I1 := Aside0.mk q1; have B1 := Aside0.mk q2; have R1 := Aside0.mk (IsRec.keep R0.out q3 HNE.out); obtain ⟨zR1_0, zR1_1, zR1_2, zR1_3, zR1_4, zR1_5, zR1_6, zR1_7, zR1_8, zR1_9, zR1_10, zR1_11, zR1_12⟩ := IsRec.ats R1.out; clear q1 q2 q3
    go_wp2_with fail
    refine (rec_cut.calls 10 k _ _ [o, n] e _ (strs2 _ _ o n) (by simp) Fe.out).mono ?_
    rintro x W2 ⟨rfl, ⟨nd, rfl⟩⟩
    have I2 := Aside0.mk ((IsS114.alloc I1.out (.cells #[.string o, .string n] 9)).drewN nd)
    have B2 := Aside0.mk (pw_below_drewN (below_alloc B1.out (.cells #[.string o, .string n] 9)) nd)
    have R2 := Aside0.mk (show IsRec (World.drewN (World.alloc _ (.cells #[.string o, .string n] 9)) nd) w.heap.size 6 x1 x2 x3 x4 k o n x8 (.slice A9 l9.length c9) (.slice A10 l10.length c10) x11 x12 from IsRec.below R1.out (pw_below_drewN (below_alloc (Below.refl _ _) (.cells #[.string o, .string n] 9)) nd))
    obtain ⟨zR2_0, zR2_1, zR2_2, zR2_3, zR2_4, zR2_5, zR2_6, zR2_7, zR2_8, zR2_9, zR2_10, zR2_11, zR2_12⟩ := IsRec.ats R2.out
    go_wp2_with fail
    refine (rec_link.calls (w.heap.size + 1) a1 a2 6 x1 x2 x3 x4 k o n x8 A9 c9 l9 A10 c10 l10 x11 x12 b1 b2 w _ I2.out B2.out (fun W_ hk => C_keep HR9.out (fun _ _ hz => by obtain rfl := k144_open hz; exact k144_mk _ _) B2.out hk (by omega)) HC9.out (fun W_ hk => C_keep HR10.out (fun _ _ hz => by obtain rfl := k36_open hz; exact k36_mk _ _) B2.out hk (by omega)) HC10.out Fb.out).mono ?_
    rintro x W3 ⟨rfl, q1, q2, q3⟩
    have I3 := Aside0.mk q1; have B3 := Aside0.mk q2; have R3 := Aside0.mk (IsRec.keep R2.out q3 HNE.out); obtain ⟨zR3_0, zR3_1, zR3_2, zR3_3, zR3_4, zR3_5, zR3_6, zR3_7, zR3_8, zR3_9, zR3_10, zR3_11, zR3_12⟩ := IsRec.ats R3.out; clear q1 q2 q3
    go_wp2_with fail
    refine (pack_Writer_Num.calls (w.heap.size + 1) b1 b2 x8 6 c1 c2 w _ I3.out B3.out Fc.out).mono ?_
    rintro x W4 ⟨rfl, q1, q2, q3⟩
    have I4 := Aside0.mk q1; have B4 := Aside0.mk q2; have R4 := Aside0.mk (IsRec.keep R3.out q3 HNE.out); obtain ⟨zR4_0, zR4_1, zR4_2, zR4_3, zR4_4, zR4_5, zR4_6, zR4_7, zR4_8, zR4_9, zR4_10, zR4_11, zR4_12⟩ := IsRec.ats R4.out; clear q1 q2 q3
    go_wp2_with fail
    refine (pack_Writer_Num.calls (w.heap.size + 1) c1 c2 x4 1 d1 d2 w _ I4.out B4.out Fd.out).mono ?_
    rintro x W5 ⟨rfl, q1, q2, q3⟩
    have I5 := Aside0.mk q1; have B5 := Aside0.mk q2; have R5 := Aside0.mk (IsRec.keep R4.out q3 HNE.out); obtain ⟨zR5_0, zR5_1, zR5_2, zR5_3, zR5_4, zR5_5, zR5_6, zR5_7, zR5_8, zR5_9, zR5_10, zR5_11, zR5_12⟩ := IsRec.ats R5.out; clear q1 q2 q3
    go_wp2_with fail
    refine (rec_change.calls (w.heap.size + 1) d1 d2 6 x1 x2 x3 x4 k o n x8 A9 l9.length c9 l9 A10 l10.length c10 l10 x11 x12 x4 u1 u2 w _ I5.out B5.out Fu.out).mono ?_
    rintro x W6 ⟨rfl, q1, q2, q3⟩
    have I6 := Aside0.mk q1; have B6 := Aside0.mk q2; have R6 := Aside0.mk (IsRec.keep R5.out q3 HNE.out); obtain ⟨zR6_0, zR6_1, zR6_2, zR6_3, zR6_4, zR6_5, zR6_6, zR6_7, zR6_8, zR6_9, zR6_10, zR6_11, zR6_12⟩ := IsRec.ats R6.out; clear q1 q2 q3
    go_wp2_with fail
    refine (pack_Writer_All.calls (w.heap.size + 1) u1 u2 u1 u2 u1 u2 w _ I6.out B6.out rfl).mono ?_
    rintro x W7 ⟨rfl, q1, q2, q3⟩
    have B7 := Aside0.mk q2; clear q1 q2 q3; have ht := HT.out
    unfold bodyTail at ht
    by_cases he0 : e = 0
    · rw [if_pos he0] at ht
      have e0 : (e == 0) = true := beq_iff_eq.mpr he0
      have e1 : (e != 0) = false := bne_eq_false_iff_eq.mpr he0
      by_cases ht0 : u2 = 0
      · rw [ht0, if_pos rfl] at ht
        have t0 : (u2 == 0) = true := beq_iff_eq.mpr ht0
        have t1 : (u2 != 0) = false := bne_eq_false_iff_eq.mpr ht0
        by_cases hz : u1.size > 4096
        · rw [if_pos hz] at ht
          obtain ⟨rfl, rfl⟩ := Prod.mk.inj ht
          have t2 : decide (4096 < (u1.size : Int)) = true := decide_eq_true (by omega)
          have t3 : decide (4096 < u1.size) = true := decide_eq_true (by omega)
          go_wp2_with fail
          go_ret2
          exact ⟨rfl, B7.out⟩
        · rw [if_neg hz] at ht
          obtain ⟨rfl, rfl⟩ := Prod.mk.inj ht
          have t2 : decide (4096 < (u1.size : Int)) = false := decide_eq_false (by omega)
          have t3 : decide (4096 < u1.size) = false := decide_eq_false (by omega)
          go_wp2_with fail
          go_ret2
          exact ⟨rfl, B7.out⟩
      · rw [if_neg ht0] at ht
        obtain ⟨rfl, rfl⟩ := Prod.mk.inj ht
        have t0 : (u2 == 0) = false := beq_eq_false_iff_ne.mpr ht0
        have t1 : (u2 != 0) = true := bne_iff_ne.mpr ht0
        go_wp2_with fail
        go_ret2
        exact ⟨rfl, B7.out⟩
    · rw [if_neg he0] at ht
      have e0 : (e == 0) = false := beq_eq_false_iff_ne.mpr he0
      have e1 : (e != 0) = true := bne_iff_ne.mpr he0
      rw [if_neg he0] at ht
      obtain ⟨rfl, rfl⟩ := Prod.mk.inj ht
      go_wp2_with fail
      go_ret2
      exact ⟨rfl, B7.out⟩
  · rw [if_neg ha] at h
    obtain ⟨rfl, rfl⟩ := Prod.mk.inj (Option.some.inj h)
    clear h
    by_cases hb : x4 < 3
    · have n0 : decide (x4 < 3) = true := decide_eq_true hb
      have R0 := Aside0.mk (show IsRec ((w.alloc (.cells #[.int .i64 6, .int .i64 x1, .int .i64 x2, .int .i64 x3, .int .i64 x4, .string k, .string o, .string n, .int .i64 x8, .slice A9 l9.length c9, .slice A10 l10.length c10, .int .i64 x11, .int .i64 x12] 33)).alloc (.cells #[.string ⟨#[]⟩, .int .i64 0] 120)) w.heap.size 6 x1 x2 x3 x4 k o n x8 (.slice A9 l9.length c9) (.slice A10 l10.length c10) x11 x12 from blk_alloc (blk_new w _) _)
      have I0 := Aside0.mk (show IsS114 w ((w.alloc (.cells #[.int .i64 6, .int .i64 x1, .int .i64 x2, .int .i64 x3, .int .i64 x4, .string k, .string o, .string n, .int .i64 x8, .slice A9 l9.length c9, .slice A10 l10.length c10, .int .i64 x11, .int .i64 x12] 33)).alloc (.cells #[.string ⟨#[]⟩, .int .i64 0] 120)) (w.heap.size + 1) ⟨#[]⟩ 0 from ⟨by have := blk_new (w.alloc (.cells #[.int .i64 6, .int .i64 x1, .int .i64 x2, .int .i64 x3, .int .i64 x4, .string k, .string o, .string n, .int .i64 x8, .slice A9 l9.length c9, .slice A10 l10.length c10, .int .i64 x11, .int .i64 x12] 33)) (.cells #[.string ⟨#[]⟩, .int .i64 0] 120); rw [show (w.alloc (.cells #[.int .i64 6, .int .i64 x1, .int .i64 x2, .int .i64 x3, .int .i64 x4, .string k, .string o, .string n, .int .i64 x8, .slice A9 l9.length c9, .slice A10 l10.length c10, .int .i64 x11, .int .i64 x12] 33)).heap.size = w.heap.size + 1 from by simp] at this; exact this, by omega⟩)
      have B0 := Aside0.mk (below_alloc (below_alloc (Below.refl w.heap.size w) (.cells #[.int .i64 6, .int .i64 x1, .int .i64 x2, .int .i64 x3, .int .i64 x4, .string k, .string o, .string n, .int .i64 x8, .slice A9 l9.length c9, .slice A10 l10.length c10, .int .i64 x11, .int .i64 x12] 33)) (.cells #[.string ⟨#[]⟩, .int .i64 0] 120))
      go_enter Tryz.func52, Tryz.ntmps52
      go_wp2_with fail
      refine (pack_Writer_Num.calls (w.heap.size + 1) ⟨#[]⟩ 0 6 1 a1 a2 w _ I0.out B0.out Fa.out).mono ?_
      rintro x W1 ⟨rfl, q1, q2, q3⟩
      have I1 := Aside0.mk q1; have B1 := Aside0.mk q2; have R1 := Aside0.mk (IsRec.keep R0.out q3 HNE.out); obtain ⟨zR1_0, zR1_1, zR1_2, zR1_3, zR1_4, zR1_5, zR1_6, zR1_7, zR1_8, zR1_9, zR1_10, zR1_11, zR1_12⟩ := IsRec.ats R1.out; clear q1 q2 q3
      go_wp2_with fail
      go_ret2
      exact ⟨rfl, B1.out⟩
    · have n0 : decide (x4 < 3) = false := decide_eq_false hb
      have n1 : decide (5 < x4) = true := decide_eq_true (by omega)
      have R0 := Aside0.mk (show IsRec ((w.alloc (.cells #[.int .i64 6, .int .i64 x1, .int .i64 x2, .int .i64 x3, .int .i64 x4, .string k, .string o, .string n, .int .i64 x8, .slice A9 l9.length c9, .slice A10 l10.length c10, .int .i64 x11, .int .i64 x12] 33)).alloc (.cells #[.string ⟨#[]⟩, .int .i64 0] 120)) w.heap.size 6 x1 x2 x3 x4 k o n x8 (.slice A9 l9.length c9) (.slice A10 l10.length c10) x11 x12 from blk_alloc (blk_new w _) _)
      have I0 := Aside0.mk (show IsS114 w ((w.alloc (.cells #[.int .i64 6, .int .i64 x1, .int .i64 x2, .int .i64 x3, .int .i64 x4, .string k, .string o, .string n, .int .i64 x8, .slice A9 l9.length c9, .slice A10 l10.length c10, .int .i64 x11, .int .i64 x12] 33)).alloc (.cells #[.string ⟨#[]⟩, .int .i64 0] 120)) (w.heap.size + 1) ⟨#[]⟩ 0 from ⟨by have := blk_new (w.alloc (.cells #[.int .i64 6, .int .i64 x1, .int .i64 x2, .int .i64 x3, .int .i64 x4, .string k, .string o, .string n, .int .i64 x8, .slice A9 l9.length c9, .slice A10 l10.length c10, .int .i64 x11, .int .i64 x12] 33)) (.cells #[.string ⟨#[]⟩, .int .i64 0] 120); rw [show (w.alloc (.cells #[.int .i64 6, .int .i64 x1, .int .i64 x2, .int .i64 x3, .int .i64 x4, .string k, .string o, .string n, .int .i64 x8, .slice A9 l9.length c9, .slice A10 l10.length c10, .int .i64 x11, .int .i64 x12] 33)).heap.size = w.heap.size + 1 from by simp] at this; exact this, by omega⟩)
      have B0 := Aside0.mk (below_alloc (below_alloc (Below.refl w.heap.size w) (.cells #[.int .i64 6, .int .i64 x1, .int .i64 x2, .int .i64 x3, .int .i64 x4, .string k, .string o, .string n, .int .i64 x8, .slice A9 l9.length c9, .slice A10 l10.length c10, .int .i64 x11, .int .i64 x12] 33)) (.cells #[.string ⟨#[]⟩, .int .i64 0] 120))
      go_enter Tryz.func52, Tryz.ntmps52
      go_wp2_with fail
      refine (pack_Writer_Num.calls (w.heap.size + 1) ⟨#[]⟩ 0 6 1 a1 a2 w _ I0.out B0.out Fa.out).mono ?_
      rintro x W1 ⟨rfl, q1, q2, q3⟩
      have I1 := Aside0.mk q1; have B1 := Aside0.mk q2; have R1 := Aside0.mk (IsRec.keep R0.out q3 HNE.out); obtain ⟨zR1_0, zR1_1, zR1_2, zR1_3, zR1_4, zR1_5, zR1_6, zR1_7, zR1_8, zR1_9, zR1_10, zR1_11, zR1_12⟩ := IsRec.ats R1.out; clear q1 q2 q3
      go_wp2_with fail
      go_ret2
      exact ⟨rfl, B1.out⟩
set_option maxHeartbeats 4000000 in
set_option maxRecDepth 100000 in
theorem body_9 (x1 x2 x3 x4 : Int) (k o n : ByteArray) (x8 : Int) (A9 : Option Addr) (c9 : Nat) (l9 : List S144) (A10 : Option Addr) (c10 : Nat) (l10 : List S36) (x11 x12 : Int) (r1 : ByteArray) (r2 : Int) (w : World) (hr9 : Kd.C k144 w A9 l9.length l9) (hc9 : l9.length ≤ c9) (hr10 : Kd.C k36 w A10 l10.length l10) (hc10 : l10.length ≤ c10)  (h : rec_body.f 9 x1 x2 x3 x4 k o n x8 l9 l10 x11 x12 = some (r1, r2)) :
    Calls Tryz.prog 52 #[.agg #[.int .i64 9, .int .i64 x1, .int .i64 x2, .int .i64 x3, .int .i64 x4, .string k, .string o, .string n, .int .i64 x8, .slice A9 l9.length c9, .slice A10 l10.length c10, .int .i64 x11, .int .i64 x12]] w fun e w' => e = .returned (.tuple #[.string r1, .int .i64 r2]) ∧ Below w.heap.size w w' := by
  have HR9 := Aside0.mk hr9; have HC9 := Aside0.mk hc9; have HR10 := Aside0.mk hr10; have HC10 := Aside0.mk hc10; clear hr9 hc9 hr10 hc10
  have HNE := Aside0.mk (show w.heap.size ≠ w.heap.size + 1 by omega)
  unfold rec_body.f at h
  replace h := Option.bind_eq_some_iff.mp h
  obtain ⟨⟨a1, a2⟩, ha, h⟩ := h
  have Fa := Aside0.mk ha; clear ha
  rw [if_neg (by decide), if_neg (by decide), if_neg (by decide), if_neg (by decide), if_neg (by decide), if_pos (by decide)] at h
  replace h := Option.bind_eq_some_iff.mp h
  obtain ⟨⟨b1, b2⟩, hb, h⟩ := h
  have Fb := Aside0.mk hb; clear hb
  replace h := Option.bind_eq_some_iff.mp h
  obtain ⟨⟨c1, c2⟩, hc, h⟩ := h
  have Fc := Aside0.mk hc; clear hc; have HT := Aside0.mk (Option.some.inj h); clear h
  have R0 := Aside0.mk (show IsRec ((w.alloc (.cells #[.int .i64 9, .int .i64 x1, .int .i64 x2, .int .i64 x3, .int .i64 x4, .string k, .string o, .string n, .int .i64 x8, .slice A9 l9.length c9, .slice A10 l10.length c10, .int .i64 x11, .int .i64 x12] 33)).alloc (.cells #[.string ⟨#[]⟩, .int .i64 0] 120)) w.heap.size 9 x1 x2 x3 x4 k o n x8 (.slice A9 l9.length c9) (.slice A10 l10.length c10) x11 x12 from blk_alloc (blk_new w _) _)
  have I0 := Aside0.mk (show IsS114 w ((w.alloc (.cells #[.int .i64 9, .int .i64 x1, .int .i64 x2, .int .i64 x3, .int .i64 x4, .string k, .string o, .string n, .int .i64 x8, .slice A9 l9.length c9, .slice A10 l10.length c10, .int .i64 x11, .int .i64 x12] 33)).alloc (.cells #[.string ⟨#[]⟩, .int .i64 0] 120)) (w.heap.size + 1) ⟨#[]⟩ 0 from ⟨by have := blk_new (w.alloc (.cells #[.int .i64 9, .int .i64 x1, .int .i64 x2, .int .i64 x3, .int .i64 x4, .string k, .string o, .string n, .int .i64 x8, .slice A9 l9.length c9, .slice A10 l10.length c10, .int .i64 x11, .int .i64 x12] 33)) (.cells #[.string ⟨#[]⟩, .int .i64 0] 120); rw [show (w.alloc (.cells #[.int .i64 9, .int .i64 x1, .int .i64 x2, .int .i64 x3, .int .i64 x4, .string k, .string o, .string n, .int .i64 x8, .slice A9 l9.length c9, .slice A10 l10.length c10, .int .i64 x11, .int .i64 x12] 33)).heap.size = w.heap.size + 1 from by simp] at this; exact this, by omega⟩)
  have B0 := Aside0.mk (below_alloc (below_alloc (Below.refl w.heap.size w) (.cells #[.int .i64 9, .int .i64 x1, .int .i64 x2, .int .i64 x3, .int .i64 x4, .string k, .string o, .string n, .int .i64 x8, .slice A9 l9.length c9, .slice A10 l10.length c10, .int .i64 x11, .int .i64 x12] 33)) (.cells #[.string ⟨#[]⟩, .int .i64 0] 120))
  go_enter Tryz.func52, Tryz.ntmps52
  go_wp2_with fail
  refine (pack_Writer_Num.calls (w.heap.size + 1) ⟨#[]⟩ 0 9 1 a1 a2 w _ I0.out B0.out Fa.out).mono ?_
  rintro x W1 ⟨rfl, q1, q2, q3⟩
  have I1 := Aside0.mk q1; have B1 := Aside0.mk q2; have R1 := Aside0.mk (IsRec.keep R0.out q3 HNE.out); obtain ⟨zR1_0, zR1_1, zR1_2, zR1_3, zR1_4, zR1_5, zR1_6, zR1_7, zR1_8, zR1_9, zR1_10, zR1_11, zR1_12⟩ := IsRec.ats R1.out; clear q1 q2 q3
  go_wp2_with fail
  refine (pack_Writer_Num.calls (w.heap.size + 1) a1 a2 (l10.length : Int) 1 b1 b2 w _ I1.out B1.out Fb.out).mono ?_
  rintro x W2 ⟨rfl, q1, q2, q3⟩
  have I2 := Aside0.mk q1; have B2 := Aside0.mk q2; have R2 := Aside0.mk (IsRec.keep R1.out q3 HNE.out); obtain ⟨zR2_0, zR2_1, zR2_2, zR2_3, zR2_4, zR2_5, zR2_6, zR2_7, zR2_8, zR2_9, zR2_10, zR2_11, zR2_12⟩ := IsRec.ats R2.out; clear q1 q2 q3
  go_wp2_with fail
  clear zR2_0 zR2_1 zR2_2 zR2_3 zR2_4 zR2_5 zR2_6 zR2_7 zR2_8 zR2_9 zR2_10 zR2_11 zR2_12; have hlen := HR10.out.2.1
  go_loopw [104] (fun v wr => ∃ (j : Int) (s : ByteArray) (e : Int), 0 ≤ j ∧ j ≤ (l10.length : Int) ∧ v = .int .i64 j ∧ Aside0 (tabF (l10.drop j.toNat) s e = some (c1, c2)) ∧ Aside0 (IsS114 w wr (w.heap.size + 1) s e) ∧ Aside0 (Below w.heap.size w wr)) (fun v _ => l10.length - (intOf v).toNat)
  case atStart => exact ⟨0, b1, b2, by omega, by omega, rfl, Fc, I2, B2⟩
  case round =>
    obtain ⟨j, s, e, hj0, hj, rfl, HA, IL, BL⟩ := hrel
    by_cases hlt : j < (l10.length : Int)
    · obtain ⟨ad, e1, hx0, hx1⟩ := at_T36 HR10.out j hj0 hlt
      cases e1
      replace hx0 := (BL.out.cell (World.block_lt_of_cell? w _ hx0)).trans hx0
      replace hx1 := (BL.out.cell (World.block_lt_of_cell? w _ hx1)).trans hx1
      have hd : l10.drop j.toNat = rd_T36 l10 j :: l10.drop (j + 1).toNat := by
        have hjl : j.toNat < l10.length := by omega
        rw [List.drop_eq_getElem_cons hjl, show (j + 1).toNat = j.toNat + 1 from by omega]
        congr 1
        unfold rd_T36
        rw [List.getD_eq_getElem?_getD, List.getElem?_eq_getElem hjl]
        rfl
      have hA := HA.out
      rw [hd, tabF] at hA
      replace hA := Option.bind_eq_some_iff.mp hA
      obtain ⟨⟨y1, y2⟩, hy, hA⟩ := hA
      replace hA := Option.bind_eq_some_iff.mp hA
      obtain ⟨⟨v1, v2⟩, hv, hA⟩ := hA
      have HY := Aside0.mk hy; have HV := Aside0.mk hv; have HN := Aside0.mk hA; clear hy hv hA hd HA
      have b0 : decide (j < (l10.length : Int)) = true := decide_eq_true hlt
      have hw : wrap64 (j + 1) = j + 1 := by unfold wrap64; omega
      generalize rd_T36 l10 j = t at *
      obtain ⟨gb, hgb⟩ : ∃ gb, gb = wr.heap.size := ⟨_, rfl⟩
      have HG := Aside0.mk (blk_new wr (.cells #[.int .i64 t.f0, .int .i64 t.f1] 55))
      go_wp2_with fail
      refine (pack_Writer_Num.calls (w.heap.size + 1) s e t.f0 6 y1 y2 w _ (IL.out.alloc (.cells #[.int .i64 t.f0, .int .i64 t.f1] 55)) (below_alloc BL.out _) HY.out).mono ?_
      rintro x W3 ⟨rfl, q1, q2, q3⟩
      have I3 := Aside0.mk q1; have B3 := Aside0.mk q2
      have hne : wr.heap.size ≠ w.heap.size + 1 := by have := IsS114.lt IL.out; omega
      have G3 : W3.heap[wr.heap.size]? = some (.cells #[.int .i64 t.f0, .int .i64 t.f1] 55 (0, 0)) := (q3.2 _ (blk_lt HG.out) hne (by simp)).trans HG.out
      have g1 : W3.cell? ⟨wr.heap.size, 1, none⟩ = some (.int .i64 t.f1) := (blk_cell G3 1).trans rfl
      clear q1 q2 q3
      go_wp2_with fail
      refine (pack_Writer_Num.calls (w.heap.size + 1) y1 y2 t.f1 6 v1 v2 w _ I3.out B3.out HV.out).mono ?_
      rintro x W4 ⟨rfl, q1, q2, q3⟩
      have I4 := Aside0.mk q1; have B4 := Aside0.mk q2; clear q1 q2 q3
      go_wp2_with fail
      go_roundw
      case rel => exact ⟨j + 1, v1, v2, by omega, by omega, by first | rfl | rw [hw], HN, I4, B4⟩
      case measure => simp [intOf]; omega
    · have hje : j.toNat = l10.length := by omega
      have hA := HA.out
      rw [hje, List.drop_length, tabF] at hA
      obtain ⟨rfl, rfl⟩ := Prod.mk.inj (Option.some.inj hA)
      have b0 : decide (j < (l10.length : Int)) = false := decide_eq_false hlt
      clear hA hje
      go_wp2_with fail
      refine (pack_Writer_All.calls (w.heap.size + 1) s e s e s e w _ IL.out BL.out rfl).mono ?_
      rintro x W4 ⟨rfl, q1, q2, q3⟩
      have B4 := Aside0.mk q2; clear q1 q2 q3; have ht := HT.out
      unfold bodyTail at ht
      rw [if_pos rfl] at ht
      by_cases ht0 : e = 0
      · rw [ht0, if_pos rfl] at ht
        have t0 : (e == 0) = true := beq_iff_eq.mpr ht0
        have t1 : (e != 0) = false := bne_eq_false_iff_eq.mpr ht0
        by_cases hz : s.size > 4096
        · rw [if_pos hz] at ht
          obtain ⟨rfl, rfl⟩ := Prod.mk.inj ht
          have t2 : decide (4096 < (s.size : Int)) = true := decide_eq_true (by omega)
          have t3 : decide (4096 < s.size) = true := decide_eq_true (by omega)
          go_wp2_with fail
          go_ret2
          exact ⟨rfl, B4.out⟩
        · rw [if_neg hz] at ht
          obtain ⟨rfl, rfl⟩ := Prod.mk.inj ht
          have t2 : decide (4096 < (s.size : Int)) = false := decide_eq_false (by omega)
          have t3 : decide (4096 < s.size) = false := decide_eq_false (by omega)
          go_wp2_with fail
          go_ret2
          exact ⟨rfl, B4.out⟩
      · rw [if_neg ht0] at ht
        obtain ⟨rfl, rfl⟩ := Prod.mk.inj ht
        have t0 : (e == 0) = false := beq_eq_false_iff_ne.mpr ht0
        have t1 : (e != 0) = true := bne_iff_ne.mpr ht0
        go_wp2_with fail
        go_ret2
        exact ⟨rfl, B4.out⟩
set_option maxHeartbeats 4000000 in
set_option maxRecDepth 100000 in
theorem body_0 (x0 x1 x2 x3 x4 : Int) (k o n : ByteArray) (x8 : Int) (A9 : Option Addr) (c9 : Nat) (l9 : List S144) (A10 : Option Addr) (c10 : Nat) (l10 : List S36) (x11 x12 : Int) (r1 : ByteArray) (r2 : Int) (w : World) (hr9 : Kd.C k144 w A9 l9.length l9) (hc9 : l9.length ≤ c9) (hr10 : Kd.C k36 w A10 l10.length l10) (hc10 : l10.length ≤ c10) (hk : x0 < 1 ∨ 10 < x0) (h : rec_body.f x0 x1 x2 x3 x4 k o n x8 l9 l10 x11 x12 = some (r1, r2)) :
    Calls Tryz.prog 52 #[.agg #[.int .i64 x0, .int .i64 x1, .int .i64 x2, .int .i64 x3, .int .i64 x4, .string k, .string o, .string n, .int .i64 x8, .slice A9 l9.length c9, .slice A10 l10.length c10, .int .i64 x11, .int .i64 x12]] w fun e w' => e = .returned (.tuple #[.string r1, .int .i64 r2]) ∧ Below w.heap.size w w' := by
  have HR9 := Aside0.mk hr9; have HC9 := Aside0.mk hc9; have HR10 := Aside0.mk hr10; have HC10 := Aside0.mk hc10; clear hr9 hc9 hr10 hc10
  have HNE := Aside0.mk (show w.heap.size ≠ w.heap.size + 1 by omega)
  unfold rec_body.f at h
  replace h := Option.bind_eq_some_iff.mp h
  obtain ⟨⟨a1, a2⟩, ha, h⟩ := h
  have Fa := Aside0.mk ha; clear ha
  rw [if_neg (by omega), if_neg (by omega), if_neg (by omega), if_neg (by omega), if_neg (by omega), if_neg (by omega), if_neg (by omega)] at h
  obtain ⟨rfl, rfl⟩ := Prod.mk.inj (Option.some.inj h)
  clear h
  have m1 : (x0 == 1) = false := beq_eq_false_iff_ne.mpr (by omega)
  have m2 : (x0 == 2) = false := beq_eq_false_iff_ne.mpr (by omega)
  have m3 : (x0 == 3) = false := beq_eq_false_iff_ne.mpr (by omega)
  have m4 : (x0 == 4) = false := beq_eq_false_iff_ne.mpr (by omega)
  have m5 : (x0 == 5) = false := beq_eq_false_iff_ne.mpr (by omega)
  have m6 : (x0 == 6) = false := beq_eq_false_iff_ne.mpr (by omega)
  have m7 : (x0 == 7) = false := beq_eq_false_iff_ne.mpr (by omega)
  have m8 : (x0 == 8) = false := beq_eq_false_iff_ne.mpr (by omega)
  have m9 : (x0 == 9) = false := beq_eq_false_iff_ne.mpr (by omega)
  have m10 : (x0 == 10) = false := beq_eq_false_iff_ne.mpr (by omega)
  have R0 := Aside0.mk (show IsRec ((w.alloc (.cells #[.int .i64 x0, .int .i64 x1, .int .i64 x2, .int .i64 x3, .int .i64 x4, .string k, .string o, .string n, .int .i64 x8, .slice A9 l9.length c9, .slice A10 l10.length c10, .int .i64 x11, .int .i64 x12] 33)).alloc (.cells #[.string ⟨#[]⟩, .int .i64 0] 120)) w.heap.size x0 x1 x2 x3 x4 k o n x8 (.slice A9 l9.length c9) (.slice A10 l10.length c10) x11 x12 from blk_alloc (blk_new w _) _)
  have I0 := Aside0.mk (show IsS114 w ((w.alloc (.cells #[.int .i64 x0, .int .i64 x1, .int .i64 x2, .int .i64 x3, .int .i64 x4, .string k, .string o, .string n, .int .i64 x8, .slice A9 l9.length c9, .slice A10 l10.length c10, .int .i64 x11, .int .i64 x12] 33)).alloc (.cells #[.string ⟨#[]⟩, .int .i64 0] 120)) (w.heap.size + 1) ⟨#[]⟩ 0 from ⟨by have := blk_new (w.alloc (.cells #[.int .i64 x0, .int .i64 x1, .int .i64 x2, .int .i64 x3, .int .i64 x4, .string k, .string o, .string n, .int .i64 x8, .slice A9 l9.length c9, .slice A10 l10.length c10, .int .i64 x11, .int .i64 x12] 33)) (.cells #[.string ⟨#[]⟩, .int .i64 0] 120); rw [show (w.alloc (.cells #[.int .i64 x0, .int .i64 x1, .int .i64 x2, .int .i64 x3, .int .i64 x4, .string k, .string o, .string n, .int .i64 x8, .slice A9 l9.length c9, .slice A10 l10.length c10, .int .i64 x11, .int .i64 x12] 33)).heap.size = w.heap.size + 1 from by simp] at this; exact this, by omega⟩)
  have B0 := Aside0.mk (below_alloc (below_alloc (Below.refl w.heap.size w) (.cells #[.int .i64 x0, .int .i64 x1, .int .i64 x2, .int .i64 x3, .int .i64 x4, .string k, .string o, .string n, .int .i64 x8, .slice A9 l9.length c9, .slice A10 l10.length c10, .int .i64 x11, .int .i64 x12] 33)) (.cells #[.string ⟨#[]⟩, .int .i64 0] 120))
  go_enter Tryz.func52, Tryz.ntmps52
  go_wp2_with fail
  refine (pack_Writer_Num.calls (w.heap.size + 1) ⟨#[]⟩ 0 x0 1 a1 a2 w _ I0.out B0.out Fa.out).mono ?_
  rintro x W1 ⟨rfl, q1, q2, q3⟩
  have I1 := Aside0.mk q1; have B1 := Aside0.mk q2; have R1 := Aside0.mk (IsRec.keep R0.out q3 HNE.out); obtain ⟨zR1_0, zR1_1, zR1_2, zR1_3, zR1_4, zR1_5, zR1_6, zR1_7, zR1_8, zR1_9, zR1_10, zR1_11, zR1_12⟩ := IsRec.ats R1.out; clear q1 q2 q3
  go_wp2_with fail
  go_ret2
  exact ⟨rfl, B1.out⟩
theorem rec_body.calls (x0 x1 x2 x3 x4 : Int) (k o n : ByteArray) (x8 : Int) (A9 : Option Addr) (c9 : Nat) (l9 : List S144) (A10 : Option Addr) (c10 : Nat) (l10 : List S36) (x11 x12 : Int) (r1 : ByteArray) (r2 : Int) (w : World) (hr9 : Kd.C k144 w A9 l9.length l9) (hc9 : l9.length ≤ c9) (hr10 : Kd.C k36 w A10 l10.length l10) (hc10 : l10.length ≤ c10) (h : rec_body.f x0 x1 x2 x3 x4 k o n x8 l9 l10 x11 x12 = some (r1, r2)) :
    Calls Tryz.prog 52 #[.agg #[.int .i64 x0, .int .i64 x1, .int .i64 x2, .int .i64 x3, .int .i64 x4, .string k, .string o, .string n, .int .i64 x8, .slice A9 l9.length c9, .slice A10 l10.length c10, .int .i64 x11, .int .i64 x12]] w fun e w' => e = .returned (.tuple #[.string r1, .int .i64 r2]) ∧ Below w.heap.size w w' := by
  rcases (show x0 = 1 ∨ x0 = 2 ∨ x0 = 3 ∨ x0 = 4 ∨ x0 = 5 ∨ x0 = 6 ∨ x0 = 7 ∨ x0 = 8 ∨ x0 = 9 ∨ x0 = 10 ∨ (x0 < 1 ∨ 10 < x0) by omega) with rfl | rfl | rfl | rfl | rfl | rfl | rfl | rfl | rfl | rfl | hk
  · exact body_1 x1 x2 x3 x4 k o n x8 A9 c9 l9 A10 c10 l10 x11 x12 r1 r2 w hr9 hc9 hr10 hc10 h
  · exact body_2 x1 x2 x3 x4 k o n x8 A9 c9 l9 A10 c10 l10 x11 x12 r1 r2 w hr9 hc9 hr10 hc10 h
  · exact body_345 3 (by omega) x1 x2 x3 x4 k o n x8 A9 c9 l9 A10 c10 l10 x11 x12 r1 r2 w hr9 hc9 hr10 hc10 h
  · exact body_345 4 (by omega) x1 x2 x3 x4 k o n x8 A9 c9 l9 A10 c10 l10 x11 x12 r1 r2 w hr9 hc9 hr10 hc10 h
  · exact body_345 5 (by omega) x1 x2 x3 x4 k o n x8 A9 c9 l9 A10 c10 l10 x11 x12 r1 r2 w hr9 hc9 hr10 hc10 h
  · exact body_6 x1 x2 x3 x4 k o n x8 A9 c9 l9 A10 c10 l10 x11 x12 r1 r2 w hr9 hc9 hr10 hc10 h
  · exact body_78 7 (by omega) x1 x2 x3 x4 k o n x8 A9 c9 l9 A10 c10 l10 x11 x12 r1 r2 w hr9 hc9 hr10 hc10 h
  · exact body_78 8 (by omega) x1 x2 x3 x4 k o n x8 A9 c9 l9 A10 c10 l10 x11 x12 r1 r2 w hr9 hc9 hr10 hc10 h
  · exact body_9 x1 x2 x3 x4 k o n x8 A9 c9 l9 A10 c10 l10 x11 x12 r1 r2 w hr9 hc9 hr10 hc10 h
  · exact body_10 x1 x2 x3 x4 k o n x8 A9 c9 l9 A10 c10 l10 x11 x12 r1 r2 w hr9 hc9 hr10 hc10 h
  · exact body_0 x0 x1 x2 x3 x4 k o n x8 A9 c9 l9 A10 c10 l10 x11 x12 r1 r2 w hr9 hc9 hr10 hc10 hk h
end Go.Proofs.YteoebfiacnploaaGreatDoor.HRec
