/- Texts of this proof, put together: RedoS, WalBf. They prove no statement. -/
import Derived.Test.YteoebfiacnploaaGreatQG21
import Derived.Test.YteoebfiacnploaaGreatQG19
import Derived.Test.YteoebfiacnploaaGreatQG20
import Derived.Maps.RangeWalk
import Derived.Maps.OwnSet
import Derived.Test.YteoebfiacnploaaGreatQG15
namespace Go.Proofs.YteoebfiacnploaaGreat.HRec
open Go.RowKit Go.Proofs.YteoebfiacnploaaGreatW.PrintWords Go.Proofs.YteoebfiacnploaaGreatW.PrintLast Go.Proofs.YteoebfiacnploaaGreatW.PrintMore
set_option linter.unusedVariables false
set_option linter.unusedSimpArgs false
theorem tbl_len {W : World} {m n : Nat} {l : List S36} (h : TblAt W m n l) : l.length ≤ n := by
  have := World.ownsMap.size_le h
  rw [Maps.size_eq] at this
  unfold tblD at this
  rwa [List.length_map] at this
set_option maxHeartbeats 8000000 in
set_option maxRecDepth 100000 in
theorem redo_sorted (m n : Nat) (l : List S36) (w : World) (hT : TblAt w m n l) (hg : GoodT l) (hn : n ≤ 1000000) :
    Calls Tryz.prog 25 #[.map (some m)] w fun e w' => ∃ A c, e = .returned (.slice A l.length c) ∧ l.length ≤ c ∧ Kd.C k36 w' A l.length l ∧ Below w.heap.size w w' := by
  have hown : w.ownsMap Tryz.prog 3 (plainElem (H := Unit) Tryz.prog 3) m n (.map (tblD l)) := hT
  have hlen := tbl_len hT; have HM := Aside0.mk hown.lt; have HG := Aside0.mk hg
  have HLN := Aside0.mk (show l.length ≤ 1000000 by omega)
  clear hT hg hn hlen
  go_enter Tryz.func25, Tryz.ntmps25
  go_wp2_with (first | (at_range; refine wpList_range_own _ rfl _ 63 rfl 3 3 (Maps.int_keyed Tryz.underlying3) Tryz.underlying63 _ m n _ rfl hown ?_; intro w0 hrg0 hg0 hs0) | go_in)
  go_frame
  go_loopw [3] (fun v wr => ∃ (left : Lit → Bool) (cnt : Nat) (ks : List S36), wr.ranges Tryz.prog 3 (plainElem (H := Unit) Tryz.prog 3) m w.heap.size n (.map (tblD l)) left cnt ∧ Aside0 (Kd.R k36 36 wr w.heap.size (fun k => k ≠ w.heap.size ∧ k ≠ m) v ks) ∧ Aside0 (Seen l left ks) ∧ Aside0 (ks.length + cnt ≤ l.length) ∧ Aside0 (Below w.heap.size w wr) ∧ Aside0 (w.heap.size < wr.heap.size))
    (fun _ wr => wr.rangeLeft m w.heap.size)
  case atStart => exact ⟨_, _, [], hrg0, ⟨Kd.R_nil _ _ _ _ _⟩, ⟨Seen.start l⟩, ⟨by rw [Maps.size_eq]; unfold tblD; rw [List.length_map]; simp⟩, ⟨Below.grown (Below.refl _ _) hg0 (Nat.le_refl _) (fun k hk => by cases hk)⟩, ⟨by rw [hs0]; exact Nat.lt_succ_self _⟩⟩
  case round =>
    obtain ⟨left, cnt, ks, hrg, HO, HSn, HC, HB, HZ⟩ := hrel
    go_wp2_with (first | (at_next; refine wpList_next_ranges_ii _ rfl _ rfl 3 3 .i64 .i64 (Maps.int_keyed Tryz.underlying3) Tryz.underlying3 Tryz.underlying3 m w.heap.size n _ _ _ rfl hrg ?_ ?_) | go_in)
    · intro hc0 hl0
      obtain ⟨inner, hinner⟩ := Kd.R_own HO.out
      rcases hinner.2 with ⟨hv, hk0⟩ | ⟨g, cap, cur, hv, _, _, h1, _⟩
      · subst hv
        have hks : ks = [] := List.eq_nil_of_length_eq_zero hk0
        subst hks
        obtain ⟨A, c, hv, hcl, hC⟩ := Kd.R_reads HO.out
        cases hv
        have hl : l = [] := (HSn.out.fits HG.out.1 hl0 (List.Perm.refl _) List.Pairwise.nil).symm
        have HB1 := HB; clear hrg hown HB hinner
        go_wp2_with (go_at_call 36; refine (sort_none 0 _).mono ?_; rintro e w' ⟨rfl, rfl⟩)
        go_ret
        refine ⟨none, 0, by rw [hl]; rfl, by rw [hl]; exact Nat.le_refl _, by rw [hl]; exact hC, ?_⟩
        exact HB1.out
      · subst hv
        have hbd : ∀ x ∈ ks, 0 ≤ x.f0 ∧ x.f0 < 281474976710656 := fun x hx => HG.out.2 x (HSn.out.sub x hx).1
        have HS := Aside0.mk (sort_row HO.out hbd HB.out (by have := HC.out; have := HLN.out; omega))
        clear hrg hown HB HO hinner
        go_wp2_with (go_at_call 36; refine HS.out.mono ?_; rintro e w' ⟨rfl, ds, hp, hsd, hC, hb⟩)
        go_ret
        have hd : ds = l := HSn.out.fits HG.out.1 hl0 hp (hsd.imp (fun h => by omega))
        have hlk : ks.length = l.length := by rw [← hd]; exact hp.length_eq.symm
        rw [hlk, hd] at hC
        refine ⟨some ⟨g, 0, none⟩, cap, by rw [hlk]; rfl, by rw [← hlk]; exact h1, hC, hb⟩
    · intro x c w1 cnt1 hwx hwc hlx hat hrg1 hlt hg1 hs1 hen
      have hm := tbl_at l x c hat; have HS2 := Aside0.mk (Seen.step HSn.out HG.out.1 hlx hm)
      have HO1 := Aside0.mk (Kd.R_grown HO.out hg1 (fun k hk e => by injection e with e; exact hk.1 e))
      have HB1 := Aside0.mk (Below.grown HB.out hg1 (Nat.le_of_lt HZ.out) (fun k hk => by injection hk with hk; omega))
      have HZ1 : Aside0 (w.heap.size < w1.heap.size) := ⟨by rw [hs1]; exact HZ.out⟩
      have HR1 := Aside0.mk hrg1; have HL0 := Aside0.mk hrg.left_eq; have HLT := Aside0.mk hlt; clear HO HB HZ hrg hrg1 hg1 hs1 hat hm HSn hown hlt
      go_wp2_with (first | ((with_reducible refine gate_builtin (b := .append) (xs := #[.tmp 13, .tmp 17]) rfl ?_); at_builtin; refine Kd.R_append k36 (w0 := w) w.heap.size rfl (.tmp 13) (.tmp 17) 29 36 (.agg #[(.int .i64 0), (.int .i64 0)]) 16 rfl Tryz.underlying29 info36 rfl (by decide) (by omega) _ ks (⟨x, c⟩ : S36) [.int .i64 x, .int .i64 c] (fun k => k ≠ w.heap.size ∧ k ≠ m) (fun _ => False) rfl rfl ?aP (fun _ hk => hk.elim) ?aF ?aO ?aB ?aS ?aL ?_; (case aP => exact k36_mkM _ _ _ (⟨x, c⟩ : S36)); (case aB => exact HB1.out); (case aF => exact (fun k hk => by have := HZ1.out; have := HM.out; exact ⟨by omega, by omega⟩)); (case aO => exact HO1.out); (case aS => exact Nat.le_of_lt HZ1.out); (case aL => have := HC.out; have := HLN.out; omega); intro v2 w2 ho hb hg hat2; have HO2 := Aside0.mk ho; have HB2 := Aside0.mk hb; have hrg2 := Aside0.mk (HR1.out.kept hg (fun e => (HO1.out.1 m e.symm).2 rfl) (fun e => (HO1.out.1 w.heap.size e.symm).1 rfl)); have HZ2 := Aside0.mk (Nat.lt_of_lt_of_le HZ1.out hg.size); clear ho hb hg hat2 HO1 HB1 HZ1 HR1) | go_in)
      go_roundw
      case rel => exact ⟨_, cnt1, ks ++ [⟨x, c⟩], hrg2.out, HO2, HS2, ⟨by rw [List.length_append, List.length_singleton]; have := HC.out; have := HLT.out; omega⟩, HB2, HZ2⟩
      case measure => rw [hrg2.out.left_eq, HL0.out]; exact HLT.out
end Go.Proofs.YteoebfiacnploaaGreat.HRec
namespace Go.Proofs.YteoebfiacnploaaGreat.HRec
open Go.RowKit Go.Proofs.YteoebfiacnploaaGreatW.PrintWords Go.Proofs.YteoebfiacnploaaGreatW.PrintLast Go.Proofs.YteoebfiacnploaaGreatW.PrintMore
set_option linter.unusedVariables false
set_option linter.unusedSimpArgs false
set_option maxHeartbeats 8000000 in
set_option maxRecDepth 100000 in
theorem log_Read_far (L d : Nat) (base sectors run : Int) (all : ByteArray) (dur lsn : Int) (w : World) (hL : IsLog w L d base sectors run all dur) (h1 : 1 ≤ lsn) (h2 : (all.size : Int) < lsn) (hs : all.size ≤ 1000000) :
    Calls Tryz.prog 21 #[.pointer (some ⟨L, 0, none⟩), .int .i64 lsn] w fun e w' => e = .returned (.tuple #[.agg #[.int .i64 0, .int .i64 0, .int .i64 0, .int .i64 0, .int .i64 0, .string ⟨#[]⟩, .string ⟨#[]⟩, .string ⟨#[]⟩, .int .i64 0, .slice none 0 0, .slice none 0 0, .int .i64 0, .int .i64 0], .int .i64 0, .int .i64 8]) ∧ Below w.heap.size w w' := by
  have hu32 := Tryz.underlying32; have LL := Aside0.mk hL
  have b0 : decide (lsn < 1) = false := decide_eq_false (by omega)
  have b1 : decide ((all.size : Int) < lsn) = true := decide_eq_true (by omega)
  clear hL
  have Z0 := Aside0.mk (show IsRec (w.alloc (.cells #[.int .i64 0, .int .i64 0, .int .i64 0, .int .i64 0, .int .i64 0, .string ⟨#[]⟩, .string ⟨#[]⟩, .string ⟨#[]⟩, .int .i64 0, .slice none 0 0, .slice none 0 0, .int .i64 0, .int .i64 0] 32)) w.heap.size 0 0 0 0 0 ⟨#[]⟩ ⟨#[]⟩ ⟨#[]⟩ 0 (.slice none 0 0) (.slice none 0 0) 0 0 from blk_new w _)
  have B0 := Aside0.mk (below_alloc (Below.refl w.heap.size w) (.cells #[.int .i64 0, .int .i64 0, .int .i64 0, .int .i64 0, .int .i64 0, .string ⟨#[]⟩, .string ⟨#[]⟩, .string ⟨#[]⟩, .int .i64 0, .slice none 0 0, .slice none 0 0, .int .i64 0, .int .i64 0] 32))
  go_enter Tryz.func21, Tryz.ntmps21
  go_wp2_with fail
  have L1 := Aside0.mk (IsLog.below LL.out (below_alloc (Below.refl _ _) (.cells #[.int .i64 0, .int .i64 0, .int .i64 0, .int .i64 0, .int .i64 0, .string ⟨#[]⟩, .string ⟨#[]⟩, .string ⟨#[]⟩, .int .i64 0, .slice none 0 0, .slice none 0 0, .int .i64 0, .int .i64 0] 32)))
  generalize hW1 : (w.alloc (.cells #[.int .i64 0, .int .i64 0, .int .i64 0, .int .i64 0, .int .i64 0, .string ⟨#[]⟩, .string ⟨#[]⟩, .string ⟨#[]⟩, .int .i64 0, .slice none 0 0, .slice none 0 0, .int .i64 0, .int .i64 0] 32)) = W1 at Z0 B0 L1 ⊢
  clear hW1
  refine (log_none L d base sectors run all dur _ L1.out).mono ?_
  rintro e w1 ⟨rfl, rfl⟩
  have c4 := IsLog.at_4 L1.out; obtain ⟨zZ0_0, zZ0_1, zZ0_2, zZ0_3, zZ0_4, zZ0_5, zZ0_6, zZ0_7, zZ0_8, zZ0_9, zZ0_10, zZ0_11, zZ0_12⟩ := IsRec.ats Z0.out; obtain ⟨yZ0_0, yZ0_1, yZ0_2, yZ0_3, yZ0_4, yZ0_5, yZ0_6, yZ0_7, yZ0_8, yZ0_9, yZ0_10, yZ0_11, yZ0_12⟩ := IsRec.frees Z0.out
  go_wp2_with fail
  have ZZ := (IsRec.sets13 Z0.out 0 0 0 0 0 ⟨#[]⟩ ⟨#[]⟩ ⟨#[]⟩ 0 (.slice none 0 0) (.slice none 0 0) 0 0)
  (try simp only [Exit.inBlock, Exit.then])
  refine bodyPost_ret (results_ctt rfl _ _ w.heap.size 32 #[.int .i64 0, .int .i64 0, .int .i64 0, .int .i64 0, .int .i64 0, .string ⟨#[]⟩, .string ⟨#[]⟩, .string ⟨#[]⟩, .int .i64 0, (.slice none 0 0), (.slice none 0 0), .int .i64 0, .int .i64 0] (0, 0) _ rfl ZZ hu32 rfl (by kernel_rfl)) rfl ?_
  exact ⟨rfl, (below13 B0.out (Nat.le_refl _))⟩
end Go.Proofs.YteoebfiacnploaaGreat.HRec
