/- rec.Of: what it computes, and its walk where the bytes have no kind, or none of the kinds. It proves no statement. -/
import Derived.Test.YteoebfiacnploaaGreatDoorQG6
import Derived.Test.YteoebfiacnploaaGreatDoorQHookRg
import Derived.Test.YteoebfiacnploaaGreatDoorQG9
import Derived.Test.YteoebfiacnploaaGreatDoorQFrecreadImages
import Derived.Test.YteoebfiacnploaaGreatDoorQFrecreadTable
namespace Go.Proofs.YteoebfiacnploaaGreatDoor.HRec
open Go.RowKit Go.Proofs.YteoebfiacnploaaGreatDoorW.PrintWords Go.Proofs.YteoebfiacnploaaGreatDoorW.PrintLast Go.Proofs.YteoebfiacnploaaGreatDoorW.PrintMore
set_option linter.unusedVariables false
set_option linter.unusedSimpArgs false
section
variable {W W1 : World} {g h : Nat} {x0 x1 x2 x3 x4 : Int} {k o n : ByteArray} {x8 : Int} {vI vT : Value} {x11 x12 : Int}
theorem IsRec.set_0 (hr : IsRec W h x0 x1 x2 x3 x4 k o n x8 vI vT x11 x12) (y : Int) : IsRec (W.setCell ⟨h, 0, none⟩ (.int .i64 y)) h y x1 x2 x3 x4 k o n x8 vI vT x11 x12 := by unfold IsRec; simpa using blk_set hr 0 (.int .i64 y)
theorem IsRec.farH (hr : IsRec W h x0 x1 x2 x3 x4 k o n x8 vI vT x11 x12) {p : Addr} (hne : h ≠ p.block) (u : Value) : IsRec (W.setCell p u) h x0 x1 x2 x3 x4 k o n x8 vI vT x11 x12 := blk_far hr hne u
theorem IsRec.keepX {g1 h1 : Nat} (hr : IsRec W h x0 x1 x2 x3 x4 k o n x8 vI vT x11 x12) (hk : KeepX g1 h1 W W1) (hg : h ≠ g1) (hh : h ≠ h1) : IsRec W1 h x0 x1 x2 x3 x4 k o n x8 vI vT x11 x12 := (hk.2 h (blk_lt hr) hg hh).trans hr
end
/-- Two rows of the call's own, behind block B and ahead of N. -/
def Rows2 (W : World) (B N : Nat) (v9 : Value) (l9 : List S144) (v10 : Value) (l10 : List S36) : Prop :=
  Kd.R k144 53 W B (fun k => B ≤ k ∧ k < N) v9 l9 ∧ Kd.R k36 55 W B (fun k => B ≤ k ∧ k < N) v10 l10 ∧ N ≤ W.heap.size
theorem Rows2.move {W W1 : World} {B N : Nat} {v9 : Value} {l9 : List S144} {v10 : Value} {l10 : List S36} (h : Rows2 W B N v9 l9 v10 l10) (hm : ∀ k, B ≤ k → k < W.heap.size → W1.heap[k]? = W.heap[k]?) (hs : W.heap.size ≤ W1.heap.size) : Rows2 W1 B N v9 l9 v10 l10 :=
  ⟨Kd.R_move h.1 (fun k hk => hm k hk.1 (Nat.lt_of_lt_of_le hk.2 h.2.2)), Kd.R_move h.2.1 (fun k hk => hm k hk.1 (Nat.lt_of_lt_of_le hk.2 h.2.2)), Nat.le_trans h.2.2 hs⟩
theorem Rows2.keep {W W1 : World} {B N g : Nat} {v9 : Value} {l9 : List S144} {v10 : Value} {l10 : List S36} (h : Rows2 W B N v9 l9 v10 l10) (hk : KeepBut W W1 g none) (hg : g < B) : Rows2 W1 B N v9 l9 v10 l10 := h.move (fun k h1 h2 => hk.2 k h2 (by omega) (by simp)) hk.1
theorem Rows2.below {W W1 : World} {B N : Nat} {v9 : Value} {l9 : List S144} {v10 : Value} {l10 : List S36} (h : Rows2 W B N v9 l9 v10 l10) (hb : Below W.heap.size W W1) : Rows2 W1 B N v9 l9 v10 l10 := h.move (fun k _ h2 => hb.block k h2) hb.size
theorem Rows2.set {W : World} {B N g j : Nat} {u : Value} {v9 : Value} {l9 : List S144} {v10 : Value} {l10 : List S36} (h : Rows2 W B N v9 l9 v10 l10) (hg : g < B) : Rows2 (W.setCell ⟨g, j, none⟩ u) B N v9 l9 v10 l10 := h.move (fun k h1 _ => Below.heap_setCell W ⟨g, j, none⟩ u k (by show k ≠ g; omega)) (by simp [World.setCell])
theorem Rows2.sets13 {W : World} {B N g : Nat} {v9 : Value} {l9 : List S144} {v10 : Value} {l10 : List S36} (h : Rows2 W B N v9 l9 v10 l10) (hg : g < B) (u0 u1 u2 u3 u4 u5 u6 u7 u8 u9 u10 u11 u12 : Value) : Rows2 (((((((((((((W.setCell ⟨g, 0, none⟩ u0).setCell ⟨g, 1, none⟩ u1).setCell ⟨g, 2, none⟩ u2).setCell ⟨g, 3, none⟩ u3).setCell ⟨g, 4, none⟩ u4).setCell ⟨g, 5, none⟩ u5).setCell ⟨g, 6, none⟩ u6).setCell ⟨g, 7, none⟩ u7).setCell ⟨g, 8, none⟩ u8).setCell ⟨g, 9, none⟩ u9).setCell ⟨g, 10, none⟩ u10).setCell ⟨g, 11, none⟩ u11).setCell ⟨g, 12, none⟩ u12) B N v9 l9 v10 l10 := Rows2.set (Rows2.set (Rows2.set (Rows2.set (Rows2.set (Rows2.set (Rows2.set (Rows2.set (Rows2.set (Rows2.set (Rows2.set (Rows2.set (Rows2.set h hg) hg) hg) hg) hg) hg) hg) hg) hg) hg) hg) hg) hg
theorem Rows2.none (W : World) (B : Nat) (hB : B ≤ W.heap.size) : Rows2 W B B (.slice none 0 0) [] (.slice none 0 0) [] := ⟨Kd.R_nil _ _ _ _ _, Kd.R_nil _ _ _ _ _, hB⟩
theorem Rows2.done {W : World} {B N b : Nat} {v9 : Value} {l9 : List S144} {v10 : Value} {l10 : List S36} (h : Rows2 W B N v9 l9 v10 l10) (hb : b ≤ B) : Kd.R k144 53 W b (fun _ => True) v9 l9 ∧ Kd.R k36 55 W b (fun _ => True) v10 l10 :=
  ⟨Kd.R_mono (Kd.R_lower h.1 hb) (fun _ _ => trivial), Kd.R_mono (Kd.R_lower h.2.1 hb) (fun _ _ => trivial)⟩
abbrev OfT := Int × Int × Int × Int × Int × ByteArray × ByteArray × ByteArray × Int × List S144 × List S36 × Int × Int × Int
def noRec (e : Int) : OfT := (0, 0, 0, 0, 0, ⟨#[]⟩, ⟨#[]⟩, ⟨#[]⟩, 0, [], [], 0, 0, e)
/-- What is behind the reading: nothing may be left, and the record's own bytes are these. -/
def ofTail (s : ByteArray) (st : RdT) (x0 x1 x2 x3 x4 : Int) (k o n : ByteArray) (x8 : Int) (l9 : List S144) (l10 : List S36) (x11 x12 : Int) : Option OfT :=
  (pack_Reader_End.f st.1 st.2.1 st.2.2).bind fun a => if a.1 = 0 then (rec_body.f x0 x1 x2 x3 x4 k o n x8 l9 l10 x11 x12).bind fun b => if b.2 = 0 then (if b.1.toList = s.toList then some (x0, x1, x2, x3, x4, k, o, n, x8, l9, l10, x11, x12, 0) else some (noRec 4)) else some (noRec 4) else some (noRec a.1)
def rec_Of.f (s : ByteArray) : Option OfT :=
  (pack_Reader_Num.f s 0 0 1).bind fun a => if a.2.2.2 = 0 then
    (if a.1 = 1 ∨ a.1 = 2 then (rec_readImages.f 300 a.2.1 a.2.2.1 a.2.2.2).bind fun i => ofTail s i.2 a.1 0 0 0 0 ⟨#[]⟩ ⟨#[]⟩ ⟨#[]⟩ 0 i.1 [] 0 0
    else if a.1 = 6 then (pack_Reader_Num.f a.2.1 a.2.2.1 a.2.2.2 6).bind fun b => (pack_Reader_Num.f b.2.1 b.2.2.1 b.2.2.2 6).bind fun c => (pack_Reader_Num.f c.2.1 c.2.2.1 c.2.2.2 6).bind fun d => (pack_Reader_Num.f d.2.1 d.2.2.1 d.2.2.2 1).bind fun u => (rec_readChange.f 5 u.2.1 u.2.2.1 u.2.2.2 u.1 ⟨#[]⟩ ⟨#[]⟩).bind fun r => ofTail s r.2.2.2.2 a.1 b.1 c.1 r.1 u.1 r.2.1 r.2.2.1 r.2.2.2.1 d.1 [] [] 0 0
    else if a.1 = 3 ∨ a.1 = 4 ∨ a.1 = 5 then (pack_Reader_Num.f a.2.1 a.2.2.1 a.2.2.2 6).bind fun b => (pack_Reader_Num.f b.2.1 b.2.2.1 b.2.2.2 6).bind fun c => (rec_readChange.f 5 c.2.1 c.2.2.1 c.2.2.2 a.1 ⟨#[]⟩ ⟨#[]⟩).bind fun r => ofTail s r.2.2.2.2 a.1 b.1 c.1 r.1 0 r.2.1 r.2.2.1 r.2.2.2.1 0 [] [] 0 0
    else if a.1 = 7 ∨ a.1 = 8 then (pack_Reader_Num.f a.2.1 a.2.2.1 a.2.2.2 6).bind fun b => (pack_Reader_Num.f b.2.1 b.2.2.1 b.2.2.2 6).bind fun c => ofTail s c.2 a.1 b.1 c.1 0 0 ⟨#[]⟩ ⟨#[]⟩ ⟨#[]⟩ 0 [] [] 0 0
    else if a.1 = 9 then (rec_readTable.f 300 a.2.1 a.2.2.1 a.2.2.2).bind fun i => ofTail s i.2 a.1 0 0 0 0 ⟨#[]⟩ ⟨#[]⟩ ⟨#[]⟩ 0 [] i.1 0 0
    else if a.1 = 10 then (pack_Reader_Num.f a.2.1 a.2.2.1 a.2.2.2 4).bind fun b => (pack_Reader_Num.f b.2.1 b.2.2.1 b.2.2.2 1).bind fun c => ofTail s c.2 a.1 0 0 0 0 ⟨#[]⟩ ⟨#[]⟩ ⟨#[]⟩ 0 [] [] b.1 c.1
    else ofTail s a.2 a.1 0 0 0 0 ⟨#[]⟩ ⟨#[]⟩ ⟨#[]⟩ 0 [] [] 0 0)
  else some (noRec a.2.2.2)
set_option maxHeartbeats 8000000 in
set_option maxRecDepth 100000 in
theorem of_0 (s : ByteArray) (x0 : Int) (a1 : ByteArray) (a2 a3 : Int) (r1 r2 r3 r4 r5 : Int) (r6 r7 r8 : ByteArray) (r9 : Int) (r10 : List S144) (r11 : List S36) (r12 r13 r14 : Int) (w : World) (ha : pack_Reader_Num.f s 0 0 1 = some (x0, a1, a2, a3)) (hk : x0 < 1 ∨ 10 < x0) (h3 : a3 = 0) (h : (ofTail s (a1, a2, a3) x0 0 0 0 0 ⟨#[]⟩ ⟨#[]⟩ ⟨#[]⟩ 0 [] [] 0 0) = some (r1, r2, r3, r4, r5, r6, r7, r8, r9, r10, r11, r12, r13, r14)) :
    Calls Tryz.prog 58 #[.string s] w fun e w' => ∃ v9_ v10_ : Value, e = .returned (.tuple #[.agg #[.int .i64 r1, .int .i64 r2, .int .i64 r3, .int .i64 r4, .int .i64 r5, .string r6, .string r7, .string r8, .int .i64 r9, v9_, v10_, .int .i64 r12, .int .i64 r13], .int .i64 r14]) ∧ Kd.R k144 53 w' w.heap.size (fun _ => True) v9_ r10 ∧ Kd.R k36 55 w' w.heap.size (fun _ => True) v10_ r11 ∧ Below w.heap.size w w' := by
  have Fa := Aside0.mk ha; clear ha
  unfold ofTail at h
  replace h := Option.bind_eq_some_iff.mp h
  obtain ⟨⟨e0, e1, e2, e3⟩, he, h⟩ := h
  have Fe := Aside0.mk he; clear he
  have m1 : (x0 == 1) = false := beq_eq_false_iff_ne.mpr (by omega)
  have m2 : (x0 == 2) = false := beq_eq_false_iff_ne.mpr (by omega)
  have m3 : (x0 == 3) = false := beq_eq_false_iff_ne.mpr (by omega)
  have m4 : (x0 == 4) = false := beq_eq_false_iff_ne.mpr (by omega)
  have m5 : (x0 == 5) = false := beq_eq_false_iff_ne.mpr (by omega)
  have m6 : (x0 == 6) = false := beq_eq_false_iff_ne.mpr (by omega)
  have m7 : (x0 == 7) = false := beq_eq_false_iff_ne.mpr (by omega)
  have m8 : (x0 == 8) = false := beq_eq_false_iff_ne.mpr (by omega)
  have m9 : (x0 == 9) = false := beq_eq_false_iff_ne.mpr (by omega)
  have m10 : (x0 == 10) = false := beq_eq_false_iff_ne.mpr (by omega)
  have hu32 := Tryz.underlying33
  have B0 := Aside0.mk (below_alloc (Below.refl w.heap.size w) (.cells #[.int .i64 0, .int .i64 0, .int .i64 0, .int .i64 0, .int .i64 0, .string ⟨#[]⟩, .string ⟨#[]⟩, .string ⟨#[]⟩, .int .i64 0, (.slice none 0 0), (.slice none 0 0), .int .i64 0, .int .i64 0] 33))
  have Z0 := Aside0.mk (show IsRec (w.alloc (.cells #[.int .i64 0, .int .i64 0, .int .i64 0, .int .i64 0, .int .i64 0, .string ⟨#[]⟩, .string ⟨#[]⟩, .string ⟨#[]⟩, .int .i64 0, (.slice none 0 0), (.slice none 0 0), .int .i64 0, .int .i64 0] 33)) w.heap.size 0 0 0 0 0 ⟨#[]⟩ ⟨#[]⟩ ⟨#[]⟩ 0 (.slice none 0 0) (.slice none 0 0) 0 0 from blk_new w _)
  go_enter Tryz.func58, Tryz.ntmps58
  go_wp2_with fail
  refine (pack_Read.calls s s 0 0 w _ B0.out rfl).mono ?_
  rintro x W1 ⟨g, rfl, q1, q2, q3⟩
  have I1 := Aside0.mk q1; have B1 := Aside0.mk q2; have Z1 := Aside0.mk (IsRec.below Z0.out q3); clear q1 q2 q3 B0 Z0
  have GZ := Aside0.mk (show w.heap.size ≠ g from fun e => IsS124.ne_blk I1.out Z1.out (by decide) e.symm)
  go_wp2_with fail
  refine (pack_Reader_Num.calls g s 0 0 1 x0 a1 a2 a3 w _ I1.out B1.out Fa.out).mono ?_
  rintro x W2 ⟨rfl, q1, q2, q3⟩
  have I2 := Aside0.mk q1; have B2 := Aside0.mk q2; have Z2 := Aside0.mk (IsRec.keep Z1.out q3 GZ.out); clear q1 q2 q3 I1 B1 Z1
  have R2 := Aside0.mk (show IsRec (W2.alloc (.cells #[.int .i64 x0, .int .i64 0, .int .i64 0, .int .i64 0, .int .i64 0, .string ⟨#[]⟩, .string ⟨#[]⟩, .string ⟨#[]⟩, .int .i64 0, (.slice none 0 0), (.slice none 0 0), .int .i64 0, .int .i64 0] 33)) W2.heap.size x0 0 0 0 0 ⟨#[]⟩ ⟨#[]⟩ ⟨#[]⟩ 0 (.slice none 0 0) (.slice none 0 0) 0 0 from blk_new W2 _)
  have I2a := Aside0.mk (IsS124.alloc I2.out (.cells #[.int .i64 x0, .int .i64 0, .int .i64 0, .int .i64 0, .int .i64 0, .string ⟨#[]⟩, .string ⟨#[]⟩, .string ⟨#[]⟩, .int .i64 0, (.slice none 0 0), (.slice none 0 0), .int .i64 0, .int .i64 0] 33))
  have B2a := Aside0.mk (below_alloc B2.out (.cells #[.int .i64 x0, .int .i64 0, .int .i64 0, .int .i64 0, .int .i64 0, .string ⟨#[]⟩, .string ⟨#[]⟩, .string ⟨#[]⟩, .int .i64 0, (.slice none 0 0), (.slice none 0 0), .int .i64 0, .int .i64 0] 33))
  have Z2a := Aside0.mk (IsRec.below Z2.out (below_alloc (Below.refl _ _) (.cells #[.int .i64 x0, .int .i64 0, .int .i64 0, .int .i64 0, .int .i64 0, .string ⟨#[]⟩, .string ⟨#[]⟩, .string ⟨#[]⟩, .int .i64 0, (.slice none 0 0), (.slice none 0 0), .int .i64 0, .int .i64 0] 33)))
  have HS := Aside0.mk (show w.heap.size < W2.heap.size from blk_lt Z2.out)
  have HG := Aside0.mk (show g < W2.heap.size from IsS124.lt I2.out)
  go_wp2_with fail
  refine (pack_Reader_Err.calls g a1 a2 a3 a3 a1 a2 a3 w _ I2a.out B2a.out rfl).mono ?_
  rintro x W3 ⟨rfl, q1, q2, q3⟩
  obtain ⟨h0, hh0⟩ : ∃ h0, h0 = W2.heap.size := ⟨_, rfl⟩
  rw [← hh0] at HS HG R2
  rw [← hh0]
  have I3 := Aside0.mk q1; have B3 := Aside0.mk q2; have Z3 := Aside0.mk (IsRec.keep Z2a.out q3 GZ.out)
  have R3 := Aside0.mk (IsRec.keep R2.out q3 (by have := HG.out; omega))
  clear q1 q2 q3 I2 B2 Z2 R2 I2a B2a Z2a hh0
  subst h3
  obtain ⟨zR3_0, zR3_1, zR3_2, zR3_3, zR3_4, zR3_5, zR3_6, zR3_7, zR3_8, zR3_9, zR3_10, zR3_11, zR3_12⟩ := IsRec.ats R3.out; obtain ⟨yR3_0, yR3_1, yR3_2, yR3_3, yR3_4, yR3_5, yR3_6, yR3_7, yR3_8, yR3_9, yR3_10, yR3_11, yR3_12⟩ := IsRec.frees R3.out
  have HB := Aside0.mk (show h0 < W3.heap.size from blk_lt R3.out)
  have N3 := Aside0.mk (show Rows2 W3 W3.heap.size W3.heap.size (.slice none 0 0) [] (.slice none 0 0) [] from Rows2.none _ _ (Nat.le_refl _))
  go_wp2_with fail
  refine (pack_Reader_End.calls g a1 a2 0 e0 e1 e2 e3 w _ I3.out B3.out Fe.out).mono ?_
  rintro x W4 ⟨rfl, q1, q2, q3⟩
  have I4 := Aside0.mk q1; have B4 := Aside0.mk q2; have Z4 := Aside0.mk (IsRec.keep Z3.out q3 GZ.out)
  have R4 := Aside0.mk (IsRec.keep R3.out q3 (by have := HG.out; omega))
  obtain ⟨zR4_0, zR4_1, zR4_2, zR4_3, zR4_4, zR4_5, zR4_6, zR4_7, zR4_8, zR4_9, zR4_10, zR4_11, zR4_12⟩ := IsRec.ats R4.out; obtain ⟨yR4_0, yR4_1, yR4_2, yR4_3, yR4_4, yR4_5, yR4_6, yR4_7, yR4_8, yR4_9, yR4_10, yR4_11, yR4_12⟩ := IsRec.frees R4.out
  have Q4 := Aside0.mk (Rows2.keep N3.out q3 (show g < W3.heap.size by have := HG.out; have := HB.out; omega))
  clear q1 q2 q3
  by_cases he : e0 = 0
  · subst he
    rw [if_pos rfl] at h
    replace h := Option.bind_eq_some_iff.mp h
    obtain ⟨⟨b0, b1⟩, hb, h⟩ := h
    have Fb := Aside0.mk hb; clear hb
    have hc9 := (Kd.R_reads' Q4.out.1).2.1
    have hC9 := (Kd.R_reads' Q4.out.1).2.2
    have hc10 := (Kd.R_reads' Q4.out.2.1).2.1
    have hC10 := (Kd.R_reads' Q4.out.2.1).2.2
    have C9 := Aside0.mk hC9; have C10 := Aside0.mk hC10; clear hC9 hC10
    go_wp2_with fail
    refine (rec_body.calls x0 0 0 0 0 ⟨#[]⟩ ⟨#[]⟩ ⟨#[]⟩ 0 none 0 ([] : List S144) none 0 ([] : List S36) 0 0 b0 b1 _ C9.out hc9 C10.out hc10 Fb.out).mono ?_
    rintro x W5 ⟨rfl, q⟩
    have B5 := Aside0.mk (below_step B4.out q); have Z5 := Aside0.mk (IsRec.below Z4.out q); have R5 := Aside0.mk (IsRec.below R4.out q); have Q5 := Aside0.mk (Rows2.below Q4.out q); clear q; clear zR4_0 yR4_0 zR4_1 yR4_1 zR4_2 yR4_2 zR4_3 yR4_3 zR4_4 yR4_4 zR4_5 yR4_5 zR4_6 yR4_6 zR4_7 yR4_7 zR4_8 yR4_8 zR4_9 yR4_9 zR4_10 yR4_10 zR4_11 yR4_11 zR4_12 yR4_12
    by_cases hb1 : b1 = 0
    · subst hb1
      rw [if_pos rfl] at h
      by_cases hs : b0.toList = s.toList
      · rw [if_pos hs] at h
        simp only [Option.some.injEq, Prod.mk.injEq] at h
        obtain ⟨rfl, rfl, rfl, rfl, rfl, rfl, rfl, rfl, rfl, rfl, rfl, rfl, rfl, rfl⟩ := h
        have u0 : (b0.toList == s.toList) = true := beq_iff_eq.mpr hs
        have u1 : (b0.toList != s.toList) = false := bne_eq_false_iff_eq.mpr hs
        obtain ⟨zR5_0, zR5_1, zR5_2, zR5_3, zR5_4, zR5_5, zR5_6, zR5_7, zR5_8, zR5_9, zR5_10, zR5_11, zR5_12⟩ := IsRec.ats R5.out; obtain ⟨yR5_0, yR5_1, yR5_2, yR5_3, yR5_4, yR5_5, yR5_6, yR5_7, yR5_8, yR5_9, yR5_10, yR5_11, yR5_12⟩ := IsRec.frees R5.out; obtain ⟨zZ5_0, zZ5_1, zZ5_2, zZ5_3, zZ5_4, zZ5_5, zZ5_6, zZ5_7, zZ5_8, zZ5_9, zZ5_10, zZ5_11, zZ5_12⟩ := IsRec.ats Z5.out; obtain ⟨yZ5_0, yZ5_1, yZ5_2, yZ5_3, yZ5_4, yZ5_5, yZ5_6, yZ5_7, yZ5_8, yZ5_9, yZ5_10, yZ5_11, yZ5_12⟩ := IsRec.frees Z5.out
        go_wp2_with fail
        have ZZ := (IsRec.sets13 Z5.out x0 0 0 0 0 ⟨#[]⟩ ⟨#[]⟩ ⟨#[]⟩ 0 (.slice none 0 0) (.slice none 0 0) 0 0)
        have QQ := Rows2.done (b := w.heap.size) (Rows2.sets13 Q5.out (show w.heap.size < W3.heap.size by have := HS.out; have := HB.out; omega) (.int .i64 x0) (.int .i64 0) (.int .i64 0) (.int .i64 0) (.int .i64 0) (.string ⟨#[]⟩) (.string ⟨#[]⟩) (.string ⟨#[]⟩) (.int .i64 0) (.slice none 0 0) (.slice none 0 0) (.int .i64 0) (.int .i64 0)) (show w.heap.size ≤ W3.heap.size by have := HS.out; have := HB.out; omega)
        (try simp only [Exit.inBlock, Exit.then])
        refine bodyPost_ret (results_ct rfl _ _ w.heap.size 33 #[.int .i64 x0, .int .i64 0, .int .i64 0, .int .i64 0, .int .i64 0, .string ⟨#[]⟩, .string ⟨#[]⟩, .string ⟨#[]⟩, .int .i64 0, (.slice none 0 0), (.slice none 0 0), .int .i64 0, .int .i64 0] (0, 0) _ rfl ZZ hu32 rfl (by kernel_rfl)) rfl ?_
        exact ⟨_, _, rfl, QQ.1, QQ.2, (below13 B5.out (Nat.le_refl _))⟩
      · rw [if_neg hs] at h
        unfold noRec at h
        simp only [Option.some.injEq, Prod.mk.injEq] at h
        obtain ⟨rfl, rfl, rfl, rfl, rfl, rfl, rfl, rfl, rfl, rfl, rfl, rfl, rfl, rfl⟩ := h
        have u0 : (b0.toList == s.toList) = false := beq_eq_false_iff_ne.mpr hs
        have u1 : (b0.toList != s.toList) = true := bne_iff_ne.mpr hs
        obtain ⟨zZ5_0, zZ5_1, zZ5_2, zZ5_3, zZ5_4, zZ5_5, zZ5_6, zZ5_7, zZ5_8, zZ5_9, zZ5_10, zZ5_11, zZ5_12⟩ := IsRec.ats Z5.out; obtain ⟨yZ5_0, yZ5_1, yZ5_2, yZ5_3, yZ5_4, yZ5_5, yZ5_6, yZ5_7, yZ5_8, yZ5_9, yZ5_10, yZ5_11, yZ5_12⟩ := IsRec.frees Z5.out
        go_wp2_with fail
        have ZZ := (IsRec.sets13 Z5.out 0 0 0 0 0 ⟨#[]⟩ ⟨#[]⟩ ⟨#[]⟩ 0 (.slice none 0 0) (.slice none 0 0) 0 0)
        (try simp only [Exit.inBlock, Exit.then])
        refine bodyPost_ret (results_ct rfl _ _ w.heap.size 33 #[.int .i64 0, .int .i64 0, .int .i64 0, .int .i64 0, .int .i64 0, .string ⟨#[]⟩, .string ⟨#[]⟩, .string ⟨#[]⟩, .int .i64 0, (.slice none 0 0), (.slice none 0 0), .int .i64 0, .int .i64 0] (0, 0) _ rfl ZZ hu32 rfl (by kernel_rfl)) rfl ?_
        exact ⟨_, _, rfl, Kd.R_nil _ _ _ _ _, Kd.R_nil _ _ _ _ _, (below13 B5.out (Nat.le_refl _))⟩
    · rw [if_neg hb1] at h
      have u0 : (b1 == 0) = false := beq_eq_false_iff_ne.mpr hb1
      have u1 : (b1 != 0) = true := bne_iff_ne.mpr hb1
      unfold noRec at h
      simp only [Option.some.injEq, Prod.mk.injEq] at h
      obtain ⟨rfl, rfl, rfl, rfl, rfl, rfl, rfl, rfl, rfl, rfl, rfl, rfl, rfl, rfl⟩ := h
      obtain ⟨zZ5_0, zZ5_1, zZ5_2, zZ5_3, zZ5_4, zZ5_5, zZ5_6, zZ5_7, zZ5_8, zZ5_9, zZ5_10, zZ5_11, zZ5_12⟩ := IsRec.ats Z5.out; obtain ⟨yZ5_0, yZ5_1, yZ5_2, yZ5_3, yZ5_4, yZ5_5, yZ5_6, yZ5_7, yZ5_8, yZ5_9, yZ5_10, yZ5_11, yZ5_12⟩ := IsRec.frees Z5.out
      go_wp2_with fail
      have ZZ := (IsRec.sets13 Z5.out 0 0 0 0 0 ⟨#[]⟩ ⟨#[]⟩ ⟨#[]⟩ 0 (.slice none 0 0) (.slice none 0 0) 0 0)
      (try simp only [Exit.inBlock, Exit.then])
      refine bodyPost_ret (results_ct rfl _ _ w.heap.size 33 #[.int .i64 0, .int .i64 0, .int .i64 0, .int .i64 0, .int .i64 0, .string ⟨#[]⟩, .string ⟨#[]⟩, .string ⟨#[]⟩, .int .i64 0, (.slice none 0 0), (.slice none 0 0), .int .i64 0, .int .i64 0] (0, 0) _ rfl ZZ hu32 rfl (by kernel_rfl)) rfl ?_
      exact ⟨_, _, rfl, Kd.R_nil _ _ _ _ _, Kd.R_nil _ _ _ _ _, (below13 B5.out (Nat.le_refl _))⟩
  · rw [if_neg he] at h
    have u0 : (e0 == 0) = false := beq_eq_false_iff_ne.mpr he
    have u1 : (e0 != 0) = true := bne_iff_ne.mpr he
    unfold noRec at h
    simp only [Option.some.injEq, Prod.mk.injEq] at h
    obtain ⟨rfl, rfl, rfl, rfl, rfl, rfl, rfl, rfl, rfl, rfl, rfl, rfl, rfl, rfl⟩ := h
    obtain ⟨zZ4_0, zZ4_1, zZ4_2, zZ4_3, zZ4_4, zZ4_5, zZ4_6, zZ4_7, zZ4_8, zZ4_9, zZ4_10, zZ4_11, zZ4_12⟩ := IsRec.ats Z4.out; obtain ⟨yZ4_0, yZ4_1, yZ4_2, yZ4_3, yZ4_4, yZ4_5, yZ4_6, yZ4_7, yZ4_8, yZ4_9, yZ4_10, yZ4_11, yZ4_12⟩ := IsRec.frees Z4.out
    go_wp2_with fail
    have ZZ := (IsRec.sets13 Z4.out 0 0 0 0 0 ⟨#[]⟩ ⟨#[]⟩ ⟨#[]⟩ 0 (.slice none 0 0) (.slice none 0 0) 0 0)
    (try simp only [Exit.inBlock, Exit.then])
    refine bodyPost_ret (results_ct rfl _ _ w.heap.size 33 #[.int .i64 0, .int .i64 0, .int .i64 0, .int .i64 0, .int .i64 0, .string ⟨#[]⟩, .string ⟨#[]⟩, .string ⟨#[]⟩, .int .i64 0, (.slice none 0 0), (.slice none 0 0), .int .i64 0, .int .i64 0] (0, 0) _ rfl ZZ hu32 rfl (by kernel_rfl)) rfl ?_
    exact ⟨_, _, rfl, Kd.R_nil _ _ _ _ _, Kd.R_nil _ _ _ _ _, (below13 B4.out (Nat.le_refl _))⟩
set_option maxHeartbeats 8000000 in
set_option maxRecDepth 100000 in
theorem of_err (s : ByteArray) (x0 : Int) (a1 : ByteArray) (a2 a3 : Int) (r1 r2 r3 r4 r5 : Int) (r6 r7 r8 : ByteArray) (r9 : Int) (r10 : List S144) (r11 : List S36) (r12 r13 r14 : Int) (w : World) (ha : pack_Reader_Num.f s 0 0 1 = some (x0, a1, a2, a3)) (h3 : a3 ≠ 0) (h : (some (noRec a3)) = some (r1, r2, r3, r4, r5, r6, r7, r8, r9, r10, r11, r12, r13, r14)) :
    Calls Tryz.prog 58 #[.string s] w fun e w' => ∃ v9_ v10_ : Value, e = .returned (.tuple #[.agg #[.int .i64 r1, .int .i64 r2, .int .i64 r3, .int .i64 r4, .int .i64 r5, .string r6, .string r7, .string r8, .int .i64 r9, v9_, v10_, .int .i64 r12, .int .i64 r13], .int .i64 r14]) ∧ Kd.R k144 53 w' w.heap.size (fun _ => True) v9_ r10 ∧ Kd.R k36 55 w' w.heap.size (fun _ => True) v10_ r11 ∧ Below w.heap.size w w' := by
  have Fa := Aside0.mk ha; clear ha
  unfold noRec at h
  simp only [Option.some.injEq, Prod.mk.injEq] at h
  obtain ⟨rfl, rfl, rfl, rfl, rfl, rfl, rfl, rfl, rfl, rfl, rfl, rfl, rfl, rfl⟩ := h
  have hu32 := Tryz.underlying33
  have B0 := Aside0.mk (below_alloc (Below.refl w.heap.size w) (.cells #[.int .i64 0, .int .i64 0, .int .i64 0, .int .i64 0, .int .i64 0, .string ⟨#[]⟩, .string ⟨#[]⟩, .string ⟨#[]⟩, .int .i64 0, (.slice none 0 0), (.slice none 0 0), .int .i64 0, .int .i64 0] 33))
  have Z0 := Aside0.mk (show IsRec (w.alloc (.cells #[.int .i64 0, .int .i64 0, .int .i64 0, .int .i64 0, .int .i64 0, .string ⟨#[]⟩, .string ⟨#[]⟩, .string ⟨#[]⟩, .int .i64 0, (.slice none 0 0), (.slice none 0 0), .int .i64 0, .int .i64 0] 33)) w.heap.size 0 0 0 0 0 ⟨#[]⟩ ⟨#[]⟩ ⟨#[]⟩ 0 (.slice none 0 0) (.slice none 0 0) 0 0 from blk_new w _)
  go_enter Tryz.func58, Tryz.ntmps58
  go_wp2_with fail
  refine (pack_Read.calls s s 0 0 w _ B0.out rfl).mono ?_
  rintro x W1 ⟨g, rfl, q1, q2, q3⟩
  have I1 := Aside0.mk q1; have B1 := Aside0.mk q2; have Z1 := Aside0.mk (IsRec.below Z0.out q3); clear q1 q2 q3 B0 Z0
  have GZ := Aside0.mk (show w.heap.size ≠ g from fun e => IsS124.ne_blk I1.out Z1.out (by decide) e.symm)
  go_wp2_with fail
  refine (pack_Reader_Num.calls g s 0 0 1 x0 a1 a2 a3 w _ I1.out B1.out Fa.out).mono ?_
  rintro x W2 ⟨rfl, q1, q2, q3⟩
  have I2 := Aside0.mk q1; have B2 := Aside0.mk q2; have Z2 := Aside0.mk (IsRec.keep Z1.out q3 GZ.out); clear q1 q2 q3 I1 B1 Z1
  have R2 := Aside0.mk (show IsRec (W2.alloc (.cells #[.int .i64 x0, .int .i64 0, .int .i64 0, .int .i64 0, .int .i64 0, .string ⟨#[]⟩, .string ⟨#[]⟩, .string ⟨#[]⟩, .int .i64 0, (.slice none 0 0), (.slice none 0 0), .int .i64 0, .int .i64 0] 33)) W2.heap.size x0 0 0 0 0 ⟨#[]⟩ ⟨#[]⟩ ⟨#[]⟩ 0 (.slice none 0 0) (.slice none 0 0) 0 0 from blk_new W2 _)
  have I2a := Aside0.mk (IsS124.alloc I2.out (.cells #[.int .i64 x0, .int .i64 0, .int .i64 0, .int .i64 0, .int .i64 0, .string ⟨#[]⟩, .string ⟨#[]⟩, .string ⟨#[]⟩, .int .i64 0, (.slice none 0 0), (.slice none 0 0), .int .i64 0, .int .i64 0] 33))
  have B2a := Aside0.mk (below_alloc B2.out (.cells #[.int .i64 x0, .int .i64 0, .int .i64 0, .int .i64 0, .int .i64 0, .string ⟨#[]⟩, .string ⟨#[]⟩, .string ⟨#[]⟩, .int .i64 0, (.slice none 0 0), (.slice none 0 0), .int .i64 0, .int .i64 0] 33))
  have Z2a := Aside0.mk (IsRec.below Z2.out (below_alloc (Below.refl _ _) (.cells #[.int .i64 x0, .int .i64 0, .int .i64 0, .int .i64 0, .int .i64 0, .string ⟨#[]⟩, .string ⟨#[]⟩, .string ⟨#[]⟩, .int .i64 0, (.slice none 0 0), (.slice none 0 0), .int .i64 0, .int .i64 0] 33)))
  have HS := Aside0.mk (show w.heap.size < W2.heap.size from blk_lt Z2.out)
  have HG := Aside0.mk (show g < W2.heap.size from IsS124.lt I2.out)
  go_wp2_with fail
  refine (pack_Reader_Err.calls g a1 a2 a3 a3 a1 a2 a3 w _ I2a.out B2a.out rfl).mono ?_
  rintro x W3 ⟨rfl, q1, q2, q3⟩
  obtain ⟨h0, hh0⟩ : ∃ h0, h0 = W2.heap.size := ⟨_, rfl⟩
  rw [← hh0] at HS HG R2
  rw [← hh0]
  have I3 := Aside0.mk q1; have B3 := Aside0.mk q2; have Z3 := Aside0.mk (IsRec.keep Z2a.out q3 GZ.out)
  have R3 := Aside0.mk (IsRec.keep R2.out q3 (by have := HG.out; omega))
  clear q1 q2 q3 I2 B2 Z2 R2 I2a B2a Z2a hh0
  have n0 : (a3 == 0) = false := beq_eq_false_iff_ne.mpr h3
  have n1 : (a3 != 0) = true := bne_iff_ne.mpr h3
  go_wp2_with fail
  refine (pack_Reader_Err.calls g a1 a2 a3 a3 a1 a2 a3 w _ I3.out B3.out rfl).mono ?_
  rintro x W4 ⟨rfl, q1, q2, q3⟩
  have B4 := Aside0.mk q2; have Z4 := Aside0.mk (IsRec.keep Z3.out q3 GZ.out); clear q1 q2 q3; obtain ⟨zZ4_0, zZ4_1, zZ4_2, zZ4_3, zZ4_4, zZ4_5, zZ4_6, zZ4_7, zZ4_8, zZ4_9, zZ4_10, zZ4_11, zZ4_12⟩ := IsRec.ats Z4.out; obtain ⟨yZ4_0, yZ4_1, yZ4_2, yZ4_3, yZ4_4, yZ4_5, yZ4_6, yZ4_7, yZ4_8, yZ4_9, yZ4_10, yZ4_11, yZ4_12⟩ := IsRec.frees Z4.out
  go_wp2_with fail
  have ZZ := (IsRec.sets13 Z4.out 0 0 0 0 0 ⟨#[]⟩ ⟨#[]⟩ ⟨#[]⟩ 0 (.slice none 0 0) (.slice none 0 0) 0 0)
  (try simp only [Exit.inBlock, Exit.then])
  refine bodyPost_ret (results_ct rfl _ _ w.heap.size 33 #[.int .i64 0, .int .i64 0, .int .i64 0, .int .i64 0, .int .i64 0, .string ⟨#[]⟩, .string ⟨#[]⟩, .string ⟨#[]⟩, .int .i64 0, (.slice none 0 0), (.slice none 0 0), .int .i64 0, .int .i64 0] (0, 0) _ rfl ZZ hu32 rfl (by kernel_rfl)) rfl ?_
  exact ⟨_, _, rfl, Kd.R_nil _ _ _ _ _, Kd.R_nil _ _ _ _ _, (below13 B4.out (Nat.le_refl _))⟩
end Go.Proofs.YteoebfiacnploaaGreatDoor.HRec
