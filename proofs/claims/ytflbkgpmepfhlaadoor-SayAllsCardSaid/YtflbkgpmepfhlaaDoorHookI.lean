/- The contract of say.Parse: the step that a line is. It proves no statement. -/
import Derived.Test.YtflbkgpmepfhlaaDoorHMidx1
namespace Go.Proofs.YtflbkgpmepfhlaaDoor.Hook
open Go.RowKit Go.Proofs.YtflbkgpmepfhlaaDoorW.PrintWords Go.Proofs.YtflbkgpmepfhlaaDoorW.PrintLast Go.Proofs.YtflbkgpmepfhlaaDoorW.PrintMore Go.Proofs.YtflbkgpmepfhlaaDoor.SayPure
set_option linter.unusedVariables false

/-- A step's fields, in their order. -/
abbrev T8 := Int × Int × Int × Int × Int × ByteArray × ByteArray × Bool
def zero8 (k : Int) : T8 := (k, 0, 0, 0, 0, ⟨#[]⟩, ⟨#[]⟩, false)
def agg8 (t : T8) : Value := .agg #[.int .i64 t.1, .int .i64 t.2.1, .int .i64 t.2.2.1, .int .i64 t.2.2.2.1, .int .u64 t.2.2.2.2.1, .string t.2.2.2.2.2.1, .string t.2.2.2.2.2.2.1, .bool t.2.2.2.2.2.2.2]
def cells8 (t : T8) : Array Value := #[.int .i64 t.1, .int .i64 t.2.1, .int .i64 t.2.2.1, .int .i64 t.2.2.2.1, .int .u64 t.2.2.2.2.1, .string t.2.2.2.2.2.1, .string t.2.2.2.2.2.2.1, .bool t.2.2.2.2.2.2.2]
def read8 (t : T8) (x : Int) (w : ByteArray) : Option (Int × T8) :=
  HMid.say_read.f 3 t.1 t.2.1 t.2.2.1 t.2.2.2.1 t.2.2.2.2.1 t.2.2.2.2.2.1 t.2.2.2.2.2.2.1 t.2.2.2.2.2.2.2 x w
/-- The arguments read one by one, from word i on. -/
def argsF (l : List ByteArray) : List Int → Nat → T8 → Option (T8 × Int)
  | [], _, t => some (t, 0)
  | x :: xs, i, t => match l[i]? with
    | some w => (read8 t x w).bind fun e => if e.1 = 0 then argsF l xs (i + 1) e.2 else some (zero8 0, e.1)
    | none => none
def parse8 (a0 : ByteArray) : Option (T8 × Int) := (strings_Split.f a0 ⟨#[32]⟩).bind fun l => match l[0]? with
  | none => none
  | some w => (HBase.say_Kind.f 30 w).bind fun k => (HBase.say_form.f k).bind fun fa =>
    if k = 0 ∨ (fa.2.length : Int) ≠ (l.length : Int) - 1 then some (zero8 0, 4) else argsF l fa.2 1 (zero8 k)
def say_Parse.f (a0 : ByteArray) : Option (Int × Int × Int × Int × Int × ByteArray × ByteArray × Bool × Int) :=
  (parse8 a0).bind fun r => some (r.1.1, r.1.2.1, r.1.2.2.1, r.1.2.2.2.1, r.1.2.2.2.2.1, r.1.2.2.2.2.2.1, r.1.2.2.2.2.2.2.1, r.1.2.2.2.2.2.2.2, r.2)

theorem cell_blk {W : World} {g : Nat} {cs : Array Value} {t : TypeId} (h : W.heap[g]? = some (.cells cs t (0, 0))) (j : Nat) : W.cell? ⟨g, j, none⟩ = cs[j]? := by simp [World.cell?, h]
theorem frozen_blk {W : World} {g : Nat} {cs : Array Value} {t : TypeId} (h : W.heap[g]? = some (.cells cs t (0, 0))) (j : Nat) : W.frozen? ⟨g, j, none⟩ = false := by simp [World.frozen?, h]
theorem rd_of (l : List ByteArray) (j : Int) (x : ByteArray) (h : l[j.toNat]? = some x) : rdOf ByteArray.empty l j = x := by
  unfold rdOf
  rw [List.getD_eq_getElem?_getD, h]
  rfl

theorem put8 {W : World} {b : Nat} {ty : TypeId} {o0 o1 o2 o3 o4 o5 o6 o7 : Value} (v0 v1 v2 v3 v4 v5 v6 v7 : Value) (h : W.heap[b]? = some (.cells #[o0, o1, o2, o3, o4, o5, o6, o7] ty (0, 0))) :
    ((((((((W.setCell ⟨b, 0, none⟩ v0).setCell ⟨b, 1, none⟩ v1).setCell ⟨b, 2, none⟩ v2).setCell ⟨b, 3, none⟩ v3).setCell ⟨b, 4, none⟩ v4).setCell ⟨b, 5, none⟩ v5).setCell ⟨b, 6, none⟩ v6).setCell ⟨b, 7, none⟩ v7).heap[b]? = some (.cells #[v0, v1, v2, v3, v4, v5, v6, v7] ty (0, 0)) := by
  have h0 := blk_put (cs' := #[v0, o1, o2, o3, o4, o5, o6, o7]) h 0 v0 rfl
  have h1 := blk_put (cs' := #[v0, v1, o2, o3, o4, o5, o6, o7]) h0 1 v1 rfl
  have h2 := blk_put (cs' := #[v0, v1, v2, o3, o4, o5, o6, o7]) h1 2 v2 rfl
  have h3 := blk_put (cs' := #[v0, v1, v2, v3, o4, o5, o6, o7]) h2 3 v3 rfl
  have h4 := blk_put (cs' := #[v0, v1, v2, v3, v4, o5, o6, o7]) h3 4 v4 rfl
  have h5 := blk_put (cs' := #[v0, v1, v2, v3, v4, v5, o6, o7]) h4 5 v5 rfl
  have h6 := blk_put (cs' := #[v0, v1, v2, v3, v4, v5, v6, o7]) h5 6 v6 rfl
  have h7 := blk_put (cs' := #[v0, v1, v2, v3, v4, v5, v6, v7]) h6 7 v7 rfl
  exact h7
theorem below8 {w W : World} {B b : Nat} (v0 v1 v2 v3 v4 v5 v6 v7 : Value) (h : Below B w W) (hb : B ≤ b) :
    Below B w ((((((((W.setCell ⟨b, 0, none⟩ v0).setCell ⟨b, 1, none⟩ v1).setCell ⟨b, 2, none⟩ v2).setCell ⟨b, 3, none⟩ v3).setCell ⟨b, 4, none⟩ v4).setCell ⟨b, 5, none⟩ v5).setCell ⟨b, 6, none⟩ v6).setCell ⟨b, 7, none⟩ v7) :=
  (((((((h.setCell (p := ⟨b, 0, none⟩) hb v0).setCell (p := ⟨b, 1, none⟩) hb v1).setCell (p := ⟨b, 2, none⟩) hb v2).setCell (p := ⟨b, 3, none⟩) hb v3).setCell (p := ⟨b, 4, none⟩) hb v4).setCell (p := ⟨b, 5, none⟩) hb v5).setCell (p := ⟨b, 6, none⟩) hb v6).setCell (p := ⟨b, 7, none⟩) hb v7

set_option maxHeartbeats 4000000 in
set_option maxRecDepth 100000 in
theorem parse_calls (a0 : ByteArray) (t : T8) (e0 : Int) (w : World) (h : parse8 a0 = some (t, e0)) :
    Calls Tryd.prog 26 #[.string a0] w fun e w' => e = .returned (.tuple #[agg8 t, .int .i64 e0]) ∧ Below w.heap.size w w' := by
  unfold parse8 at h
  obtain ⟨l, hl, h⟩ := Option.bind_eq_some_iff.1 h
  have HL := Aside0.mk hl
  clear hl
  split at h
  · cases h
  rename_i w0 hw0
  obtain ⟨k, hk, h⟩ := Option.bind_eq_some_iff.1 h
  obtain ⟨⟨fw, fa⟩, hf, h⟩ := Option.bind_eq_some_iff.1 h
  have hlen : 0 < l.length := by
    cases l with
    | nil => cases hw0
    | cons _ _ => simp
  have HW0 := Aside0.mk (rd_of l 0 w0 hw0)
  have HK := Aside0.mk hk
  have HF := Aside0.mk hf
  have H := Aside0.mk h
  clear hk hf h hw0
  have hu32 := Tryd.underlying32
  have hlen0 : (0 : Int) < (l.length : Int) := by omega
  go_enter Tryd.func26, Tryd.ntmps26
  go_wp2_with fail
  refine (strings_Split.calls a0 _ _ _ HL.out).mono ?_
  rintro e w1 ⟨v1, rfl, hR1, hb1⟩
  obtain ⟨A1, c1, e1, hc1, hC1⟩ := Kd.R_reads hR1
  subst e1
  have hres1 := (hb1.block w.heap.size (by simp)).trans (heap_alloc_new w _)
  have HR1 := Aside0.mk hR1
  have HRES1 := Aside0.mk hres1
  have HB1 := Aside0.mk ((below_alloc (Below.refl w.heap.size w) _).trans (hb1.mono (by simp)))
  obtain ⟨ad, e2, hx0⟩ := Kd.at_string hC1 0 (Int.le_refl 0) hlen0
  subst e2
  rw [HW0.out, show (0 : Int).toNat = 0 from rfl, Addr.add_zero'] at hx0
  have HC1 := Aside0.mk hc1
  have hlmax : l.length ≤ 9223372036854775807 := Kd.C_max hC1
  clear hb1 hres1 hR1 hC1 hc1
  go_wp2_with fail
  refine (HBase.say_Kind.calls 30 w0 k _ HK.out).mono ?_
  rintro e w2 ⟨rfl, hb2⟩
  have HR2 := Aside0.mk (Kd.R_below HR1.out hb2)
  have hlt0 : w.heap.size < w1.heap.size := blk_lt HRES1.out
  have HRES2 := Aside0.mk ((hb2.block w.heap.size hlt0).trans HRES1.out)
  have HB2 := Aside0.mk (HB1.out.trans (hb2.mono HB1.out.size))
  have hx1 := Aside0.mk hx0
  clear hb2 HR1 HRES1 HB1 hx0 hlt0
  go_wp2_with fail
  obtain ⟨g, hg⟩ : ∃ g, g = w2.heap.size := ⟨_, rfl⟩
  have hblk0 : (w2.alloc (.cells (cells8 (zero8 k)) 32)).heap[g]? = some (.cells (cells8 (zero8 k)) 32 (0, 0)) := by rw [hg]; exact heap_alloc_new w2 _
  have hal : Below w2.heap.size w2 (w2.alloc (.cells (cells8 (zero8 k)) 32)) := below_alloc (Below.refl _ _) _
  refine (HBase.say_form.calls k fw fa _ HF.out).mono ?_
  rintro e w4 ⟨va, rfl, hRA, hb4⟩
  have hb24 : Below w2.heap.size w2 w4 := hal.trans (hb4.mono hal.size)
  have HR4 := Aside0.mk (Kd.R_below HR2.out hb24)
  have HRES4 := Aside0.mk ((hb24.block w.heap.size (blk_lt HRES2.out)).trans HRES2.out)
  have HG4 := Aside0.mk ((hb4.block g (blk_lt hblk0)).trans hblk0)
  have HB4 := Aside0.mk (HB2.out.trans (hb24.mono HB2.out.size))
  have HGW := Aside0.mk (show w.heap.size < g by rw [hg]; exact blk_lt HRES2.out)
  obtain ⟨A2, c2, e3, hc2, hC2⟩ := Kd.R_reads hRA
  subst e3
  have HC2 := Aside0.mk hc2
  have hfmax : fa.length ≤ 9223372036854775807 := Kd.C_max hC2
  have HRA := Aside0.mk hRA
  rw [← hg]
  clear hg hblk0 hal hb24 hb4 hRA hc2 hC2 HR2 HRES2 HB2
  by_cases hbad : k = 0 ∨ (fa.length : Int) ≠ (l.length : Int) - 1
  · have hk0 : w4.cell? ⟨g, 0, none⟩ = some (.int .i64 k) := (cell_blk HG4.out 0).trans rfl
    obtain ⟨rfl, rfl⟩ : zero8 0 = t ∧ (4 : Int) = e0 := by
      have hh := H.out
      rw [if_pos hbad] at hh
      simpa using hh
    have rc0 : w4.cell? ⟨w.heap.size, 0, none⟩ = some (.int .i64 0) := (cell_blk HRES4.out 0).trans rfl
    have rf0 := frozen_blk HRES4.out 0
    have rc1 : w4.cell? ⟨w.heap.size, 1, none⟩ = some (.int .i64 0) := (cell_blk HRES4.out 1).trans rfl
    have rf1 := frozen_blk HRES4.out 1
    have rc2 : w4.cell? ⟨w.heap.size, 2, none⟩ = some (.int .i64 0) := (cell_blk HRES4.out 2).trans rfl
    have rf2 := frozen_blk HRES4.out 2
    have rc3 : w4.cell? ⟨w.heap.size, 3, none⟩ = some (.int .i64 0) := (cell_blk HRES4.out 3).trans rfl
    have rf3 := frozen_blk HRES4.out 3
    have rc4 : w4.cell? ⟨w.heap.size, 4, none⟩ = some (.int .u64 0) := (cell_blk HRES4.out 4).trans rfl
    have rf4 := frozen_blk HRES4.out 4
    have rc5 : w4.cell? ⟨w.heap.size, 5, none⟩ = some (.string ⟨#[]⟩) := (cell_blk HRES4.out 5).trans rfl
    have rf5 := frozen_blk HRES4.out 5
    have rc6 : w4.cell? ⟨w.heap.size, 6, none⟩ = some (.string ⟨#[]⟩) := (cell_blk HRES4.out 6).trans rfl
    have rf6 := frozen_blk HRES4.out 6
    have rc7 : w4.cell? ⟨w.heap.size, 7, none⟩ = some (.bool false) := (cell_blk HRES4.out 7).trans rfl
    have rf7 := frozen_blk HRES4.out 7
    by_cases hk0' : k = 0
    · have b0 : (k == 0) = true := by rw [hk0']; rfl
      have HKK := Aside0.mk hk0'
      clear hk0' hbad
      go_wp2_with fail
      exact bodyPost_ret (results_ct rfl _ _ w.heap.size 32 (cells8 (zero8 0)) (0, 0) _ rfl (put8 _ _ _ _ _ _ _ _ HRES4.out) Tryd.underlying32 rfl (by kernel_rfl)) rfl ⟨rfl, below8 _ _ _ _ _ _ _ _ HB4.out (Nat.le_refl _)⟩
    · have b0 : (k == 0) = false := beq_eq_false_iff_ne.2 hk0'
      have b1 : ((fa.length : Int) != (l.length : Int) - 1) = true := by
        rw [bne_iff_ne]
        rcases hbad with h | h
        · exact absurd h hk0'
        · exact h
      clear hbad
      go_wp2_with fail
      exact bodyPost_ret (results_ct rfl _ _ w.heap.size 32 (cells8 (zero8 0)) (0, 0) _ rfl (put8 _ _ _ _ _ _ _ _ HRES4.out) Tryd.underlying32 rfl (by kernel_rfl)) rfl ⟨rfl, below8 _ _ _ _ _ _ _ _ HB4.out (Nat.le_refl _)⟩
  · have hk0' : ¬ k = 0 := fun e => hbad (.inl e)
    have hlen2 : (fa.length : Int) = (l.length : Int) - 1 := by
      by_cases e : (fa.length : Int) = (l.length : Int) - 1
      · exact e
      · exact absurd (.inr e) hbad
    have hk0 : w4.cell? ⟨g, 0, none⟩ = some (.int .i64 k) := (cell_blk HG4.out 0).trans rfl
    have b0 : (k == 0) = false := beq_eq_false_iff_ne.2 hk0'
    have b1 : ((fa.length : Int) != (l.length : Int) - 1) = false := by rw [bne_eq_false_iff_eq]; exact hlen2
    have H2 : Aside0 (argsF l fa 1 (zero8 k) = some (t, e0)) := ⟨by have hh := H.out; rw [if_neg hbad] at hh; exact hh⟩
    have HLEN := Aside0.mk hlen2
    have HRW := Aside0.mk (Kd.R_types HR4.out HG4.out (by decide))
    have HAW := Aside0.mk (Kd.R_types HRA.out HG4.out (by decide))
    clear hbad hlen2 H HR4 HRA
    go_wp2_with fail
    clear hk0 b0 b1 hk0'
    generalize (w.alloc _).heap.size = base1 at HRW
    generalize (w2.alloc _).heap.size = base2 at HAW
    go_loopw [38] (fun v wr => ∃ (j : Int) (t1 : T8), 0 ≤ j ∧ j ≤ (fa.length : Int) ∧ v = .int .i64 j ∧ Aside0 (argsF l (fa.drop j.toNat) (j.toNat + 1) t1 = some (t, e0)) ∧ Aside0 (wr.heap[g]? = some (.cells (cells8 t1) 32 (0, 0))) ∧ Aside0 (wr.heap[w.heap.size]? = some (.cells (cells8 (zero8 0)) 32 (0, 0))) ∧ Aside0 (Kd.R Kd.string 9 wr base1 (fun k => True ∧ k ≠ g) (.slice (some ad) l.length c1) l) ∧ Aside0 (Kd.R (Kd.int .i64) 3 wr base2 (fun k => True ∧ k ≠ g) (.slice A2 fa.length c2) fa) ∧ Aside0 (Below w.heap.size w wr)) (fun v _ => fa.length - (intOf v).toNat)
    case atStart => exact ⟨0, zero8 k, by omega, by omega, rfl, ⟨by simpa using H2.out⟩, HG4, HRES4, HRW, HAW, HB4⟩
    case round =>
      clear H2 HG4 HRES4 HRW HAW HB4
      obtain ⟨j, t1, hj0, hj, rfl, H2, HG, HRES, HRW, HAW, HB⟩ := hrel
      by_cases hlt : j < (fa.length : Int)
      · obtain ⟨ad2, e2, hx⟩ := Kd.at_int (Kd.R_reads' HAW.out).2.2 j hj0 hlt
        subst e2
        have hj1 : j + 1 < (l.length : Int) := by have := HLEN.out; omega
        obtain ⟨ad3, e3, hy⟩ := Kd.at_string (Kd.R_reads' HRW.out).2.2 (j + 1) (by omega) hj1
        obtain rfl : ad = ad3 := Option.some.inj e3
        clear e3
        have hjn : j.toNat < fa.length := by omega
        have hjn1 : j.toNat + 1 < l.length := by omega
        have hdrop : fa.drop j.toNat = rd fa j :: fa.drop (j.toNat + 1) := by
          rw [List.drop_eq_getElem_cons hjn]
          unfold rd
          rw [List.getD_eq_getElem?_getD, List.getElem?_eq_getElem hjn]
          rfl
        have hword : l[j.toNat + 1]? = some (rdOf ByteArray.empty l (j + 1)) := by
          unfold rdOf
          rw [show (j + 1).toNat = j.toNat + 1 from by omega, List.getD_eq_getElem?_getD, List.getElem?_eq_getElem hjn1]
          rfl
        have hstep := H2.out
        rw [hdrop, argsF, hword] at hstep
        simp only at hstep
        obtain ⟨⟨e1, t2⟩, hread, hrest⟩ := Option.bind_eq_some_iff.1 hstep
        have HREAD := Aside0.mk hread
        have HREST := Aside0.mk hrest
        have b2 : decide (j < (fa.length : Int)) = true := decide_eq_true hlt
        clear hdrop hword hstep hread hrest H2
        go_wp2_with fail
        refine (HMid.say_read.calls 3 g _ _ _ _ _ _ _ _ _ _ e1 t2.1 t2.2.1 t2.2.2.1 t2.2.2.2.1 t2.2.2.2.2.1 t2.2.2.2.2.2.1 t2.2.2.2.2.2.2.1 t2.2.2.2.2.2.2.2 w _ ⟨HG.out, Nat.le_of_lt HGW.out⟩ HB.out HREAD.out).mono ?_
        rintro e w5 ⟨rfl, hI5, hb5, hk5⟩
        have HG5 := Aside0.mk hI5.1
        have HRES5 := Aside0.mk ((hk5.2 w.heap.size (blk_lt HRES.out) (by have := HGW.out; omega) (by simp)).trans HRES.out)
        have HRW5 := Aside0.mk (Kd.R_keep HRW.out hk5 (fun k hk => hk.2))
        have HAW5 := Aside0.mk (Kd.R_keep HAW.out hk5 (fun k hk => hk.2))
        have HB5 := Aside0.mk hb5
        clear hI5 hb5 hk5 HG HRES HRW HAW HB
        by_cases he : e1 = 0
        · have b3 : (e1 != 0) = false := by rw [he]; rfl
          have HREST2 : Aside0 (argsF l (fa.drop (j.toNat + 1)) (j.toNat + 1 + 1) t2 = some (t, e0)) := ⟨by have hh := HREST.out; rw [if_pos he] at hh; exact hh⟩
          clear he HREST
          go_wp2_with fail
          go_roundw
          case rel => exact ⟨j + 1, t2, by omega, by omega, by go_num, ⟨by rw [show (j + 1).toNat = j.toNat + 1 from by omega]; exact HREST2.out⟩, HG5, HRES5, HRW5, HAW5, HB5⟩
          case measure => simp [intOf]; omega
        · have b3 : (e1 != 0) = true := bne_iff_ne.2 he
          obtain ⟨rfl, rfl⟩ : zero8 0 = t ∧ e1 = e0 := by
            have hh := HREST.out
            rw [if_neg he] at hh
            simpa using hh
          clear he HREST
          have rc0 : w5.cell? ⟨w.heap.size, 0, none⟩ = some (.int .i64 0) := (cell_blk HRES5.out 0).trans rfl
          have rf0 := frozen_blk HRES5.out 0
          have rc1 : w5.cell? ⟨w.heap.size, 1, none⟩ = some (.int .i64 0) := (cell_blk HRES5.out 1).trans rfl
          have rf1 := frozen_blk HRES5.out 1
          have rc2 : w5.cell? ⟨w.heap.size, 2, none⟩ = some (.int .i64 0) := (cell_blk HRES5.out 2).trans rfl
          have rf2 := frozen_blk HRES5.out 2
          have rc3 : w5.cell? ⟨w.heap.size, 3, none⟩ = some (.int .i64 0) := (cell_blk HRES5.out 3).trans rfl
          have rf3 := frozen_blk HRES5.out 3
          have rc4 : w5.cell? ⟨w.heap.size, 4, none⟩ = some (.int .u64 0) := (cell_blk HRES5.out 4).trans rfl
          have rf4 := frozen_blk HRES5.out 4
          have rc5 : w5.cell? ⟨w.heap.size, 5, none⟩ = some (.string ⟨#[]⟩) := (cell_blk HRES5.out 5).trans rfl
          have rf5 := frozen_blk HRES5.out 5
          have rc6 : w5.cell? ⟨w.heap.size, 6, none⟩ = some (.string ⟨#[]⟩) := (cell_blk HRES5.out 6).trans rfl
          have rf6 := frozen_blk HRES5.out 6
          have rc7 : w5.cell? ⟨w.heap.size, 7, none⟩ = some (.bool false) := (cell_blk HRES5.out 7).trans rfl
          have rf7 := frozen_blk HRES5.out 7
          go_wp2_with fail
          exact bodyPost_ret (results_ct rfl _ _ w.heap.size 32 (cells8 (zero8 0)) (0, 0) _ rfl (put8 _ _ _ _ _ _ _ _ HRES5.out) Tryd.underlying32 rfl (by kernel_rfl)) rfl ⟨rfl, below8 _ _ _ _ _ _ _ _ HB5.out (Nat.le_refl _)⟩
      · have hnil : fa.drop j.toNat = [] := by rw [List.drop_eq_nil_iff]; omega
        obtain ⟨rfl, rfl⟩ : t1 = t ∧ (0 : Int) = e0 := by
          have hh := H2.out
          rw [hnil, argsF] at hh
          simpa using hh
        have b2 : decide (j < (fa.length : Int)) = false := decide_eq_false hlt
        clear hnil
        have gc0 : wr.cell? ⟨g, 0, none⟩ = some (.int .i64 t1.1) := (cell_blk HG.out 0).trans rfl
        have gc1 : wr.cell? ⟨g, 1, none⟩ = some (.int .i64 t1.2.1) := (cell_blk HG.out 1).trans rfl
        have gc2 : wr.cell? ⟨g, 2, none⟩ = some (.int .i64 t1.2.2.1) := (cell_blk HG.out 2).trans rfl
        have gc3 : wr.cell? ⟨g, 3, none⟩ = some (.int .i64 t1.2.2.2.1) := (cell_blk HG.out 3).trans rfl
        have gc4 : wr.cell? ⟨g, 4, none⟩ = some (.int .u64 t1.2.2.2.2.1) := (cell_blk HG.out 4).trans rfl
        have gc5 : wr.cell? ⟨g, 5, none⟩ = some (.string t1.2.2.2.2.2.1) := (cell_blk HG.out 5).trans rfl
        have gc6 : wr.cell? ⟨g, 6, none⟩ = some (.string t1.2.2.2.2.2.2.1) := (cell_blk HG.out 6).trans rfl
        have gc7 : wr.cell? ⟨g, 7, none⟩ = some (.bool t1.2.2.2.2.2.2.2) := (cell_blk HG.out 7).trans rfl
        have rc0 : wr.cell? ⟨w.heap.size, 0, none⟩ = some (.int .i64 0) := (cell_blk HRES.out 0).trans rfl
        have rf0 := frozen_blk HRES.out 0
        have rc1 : wr.cell? ⟨w.heap.size, 1, none⟩ = some (.int .i64 0) := (cell_blk HRES.out 1).trans rfl
        have rf1 := frozen_blk HRES.out 1
        have rc2 : wr.cell? ⟨w.heap.size, 2, none⟩ = some (.int .i64 0) := (cell_blk HRES.out 2).trans rfl
        have rf2 := frozen_blk HRES.out 2
        have rc3 : wr.cell? ⟨w.heap.size, 3, none⟩ = some (.int .i64 0) := (cell_blk HRES.out 3).trans rfl
        have rf3 := frozen_blk HRES.out 3
        have rc4 : wr.cell? ⟨w.heap.size, 4, none⟩ = some (.int .u64 0) := (cell_blk HRES.out 4).trans rfl
        have rf4 := frozen_blk HRES.out 4
        have rc5 : wr.cell? ⟨w.heap.size, 5, none⟩ = some (.string ⟨#[]⟩) := (cell_blk HRES.out 5).trans rfl
        have rf5 := frozen_blk HRES.out 5
        have rc6 : wr.cell? ⟨w.heap.size, 6, none⟩ = some (.string ⟨#[]⟩) := (cell_blk HRES.out 6).trans rfl
        have rf6 := frozen_blk HRES.out 6
        have rc7 : wr.cell? ⟨w.heap.size, 7, none⟩ = some (.bool false) := (cell_blk HRES.out 7).trans rfl
        have rf7 := frozen_blk HRES.out 7
        go_wp2_with fail
        exact bodyPost_ret (results_ct rfl _ _ w.heap.size 32 (cells8 t1) (0, 0) _ rfl (put8 _ _ _ _ _ _ _ _ HRES.out) Tryd.underlying32 rfl (by kernel_rfl)) rfl ⟨rfl, below8 _ _ _ _ _ _ _ _ HB.out (Nat.le_refl _)⟩

theorem say_Parse.calls (a0 : ByteArray) (r1 r2 r3 r4 r5 : Int) (r6 r7 : ByteArray) (r8 : Bool) (r9 : Int) (w : World) (h : say_Parse.f a0 = some (r1, r2, r3, r4, r5, r6, r7, r8, r9)) :
    Calls Tryd.prog 26 #[.string a0] w fun e w' => e = .returned (.tuple #[.agg #[.int .i64 r1, .int .i64 r2, .int .i64 r3, .int .i64 r4, .int .u64 r5, .string r6, .string r7, .bool r8], .int .i64 r9]) ∧ Below w.heap.size w w' := by
  unfold say_Parse.f at h
  obtain ⟨⟨t, e⟩, hp, h⟩ := Option.bind_eq_some_iff.1 h
  have h2 := Option.some.inj h
  simp only [Prod.mk.injEq] at h2
  obtain ⟨rfl, rfl, rfl, rfl, rfl, rfl, rfl, rfl, rfl⟩ := h2
  exact parse_calls a0 t e w hp
end Go.Proofs.YtflbkgpmepfhlaaDoor.Hook
