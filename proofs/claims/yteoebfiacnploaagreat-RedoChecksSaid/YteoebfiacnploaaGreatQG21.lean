/- Texts of this proof, put together: RedoF, SortL, SortK, PureSort. They prove no statement. -/
import Derived.Test.YteoebfiacnploaaGreatQG19
import Derived.Test.YteoebfiacnploaaGreatQG20
import Derived.Test.YteoebfiacnploaaGreatQWalE
import Derived.Test.YteoebfiacnploaaGreatQG15
import Derived.Deep.LoopGhost
import Derived.Shelf.SlSortCmp.WholeK
import Derived.Test.YteoebfiacnploaaGreatProg
import Derived.Shelf.SlSortCmp.NoneTotal
import Derived.Test.YteoebfiacnploaaGreatQFtypes
import Derived.Test.YteoebfiacnploaaGreatQG3
import Derived.Test.YteoebfiacnploaaGreatQPureTot
import Derived.Test.YteoebfiacnploaaGreatQG18
import Derived.Maps.Views
namespace Go.Proofs.YteoebfiacnploaaGreat.HRec
open Go.RowKit Go.Proofs.YteoebfiacnploaaGreatW.PrintWords Go.Proofs.YteoebfiacnploaaGreatW.PrintLast Go.Proofs.YteoebfiacnploaaGreatW.PrintMore
attribute [local go_sem] max2_int min2_int max_two min_two
set_option linter.unusedVariables false
set_option linter.unusedSimpArgs false
/-- What each answers: nil, or a broken record. -/
def EachEnd (c : Int) (e : Ending) : Prop := (c = 0 ∧ e = .returned .nilIface) ∨ (c = 20 ∧ ∃ b, e = .returned (.iface 84 (.pointer (some ⟨b, 0, none⟩))))
set_option maxHeartbeats 16000000 in
set_option maxRecDepth 100000 in
theorem redo_eachT (k L d : Nat) (base sectors run : Int) (all : ByteArray) (dur : Int) (B m nn : Nat) (l R : List S36) (c frm : Int) (w0 w : World) (hL : IsLog w L d base sectors run all dur) (hs : all.size ≤ 11600) (hf : 1 ≤ frm) (hB : w.cell? ⟨B, 0, none⟩ = some (.map (some m))) (hBm : B ≠ m) (hLm : L ≠ m) (hT : TblAt w m nn l) (hr : GoodT l) (hn : nn + k ≤ 1000000) (hb : Below w0.heap.size w0 w) (hm0 : w0.heap.size ≤ m) (h : eachT k all l frm = some (R, c)) :
    Calls Tryz.prog 23 #[.pointer (some ⟨L, 0, none⟩), .int .i64 frm, .func (.func 24) #[] #[.pointer (some ⟨B, 0, none⟩)]] w fun e w' => EachEnd c e ∧ (∃ n', n' ≤ nn + k ∧ TblAt w' m n' R) ∧ GoodT R ∧ Below w0.heap.size w0 w' ∧ w.heap.size ≤ w'.heap.size ∧ ∀ i, i < w.heap.size → i ≠ m → w'.heap[i]? = w.heap[i]? := by
  have hu32 := Tryz.underlying32
  have hmx : (if frm < 1 then (1 : Int) else frm) = frm := if_neg (by omega)
  have hmx2 : max frm 1 = frm := by omega
  have HL := Aside0.mk hL; have HBc := Aside0.mk hB; have HH := Aside0.mk h; have HF := Aside0.mk hf; have HS := Aside0.mk hs; have HT := Aside0.mk hT; have HR := Aside0.mk hr; have HN := Aside0.mk hn; have HB0 := Aside0.mk hb; have HM0 := Aside0.mk hm0
  have HLT := Aside0.mk (Array.getElem?_eq_some_iff.1 hL).1
  have HBT := Aside0.mk (heap_of_cell hB); have HBM := Aside0.mk hBm; have HLM := Aside0.mk hLm; clear hL hB h hf hs hT hr hn hb hm0 hBm hLm
  go_enter Tryz.func23, Tryz.ntmps23
  go_wp2_with fail
  go_loopg [7] k (fun kq v7 w' => ∃ (lsn : Int) (l1 : List S36) (n1 : Nat), v7 = .int .i64 lsn ∧ Aside0 (eachT kq all l1 lsn = some (R, c)) ∧ Aside0 (1 ≤ lsn) ∧ Aside0 (TblAt w' m n1 l1) ∧ Aside0 (GoodT l1) ∧ Aside0 (n1 + kq ≤ nn + k) ∧ Aside0 (Below w0.heap.size w0 w') ∧ Aside0 (w.heap.size ≤ w'.heap.size ∧ ∀ i, i < w.heap.size → i ≠ m → w'.heap[i]? = w.heap[i]?))
  case atStart => exact ⟨frm, l, nn, by first | rfl | rw [hmx2] | rw [hmx], HH, HF, HT, HR, ⟨Nat.le_refl _⟩, HB0, ⟨Nat.le_refl _, fun i _ _ => rfl⟩⟩
  case round =>
    clear HH HF HT HR HB0 hmx hmx2
    obtain ⟨lsn, l1, n1, rfl, HH, HF, HT, HR, HQ, HB0, HK⟩ := hrel
    have hLr := Aside0.mk (show IsLog wr L d base sectors run all dur from (HK.out.2 L HLT.out HLM.out).trans HL.out)
    have hcr : wr.cell? ⟨B, 0, none⟩ = some (.map (some m)) := (World.cell?_of_block (w := w) (a := ⟨B, 0, none⟩) (HK.out.2 B HBT.out HBM.out)).trans HBc.out
    cases gk with
    | zero => exact absurd HH.out (by simp [eachT])
    | succ k1 =>
      have H := HH.out; clear HH
      rw [eachT] at H
      go_wp2_with fail
      refine (log_End L d base sectors run all dur wr hLr.out (by have := HS.out; omega)).mono ?_
      rintro e w1 ⟨rfl, hw⟩
      rw [hw]
      clear hw w1
      by_cases hc : lsn < (all.size : Int) + 1
      · rw [if_pos hc] at H
        have b0 : decide (lsn < (all.size : Int) + 1) = true := decide_eq_true hc
        obtain ⟨r, hr, hr0⟩ := read_tot all lsn HS.out HF.out
        rw [hr, Option.bind_some] at H
        have hx := read_x1 hr
        obtain ⟨y1, y2, y3, y4, y5, y6, y7, y8, y9, y10, y11, y12, y13, y14, y15⟩ := r
        dsimp only at H hr0 hx
        by_cases hc15 : y15 = 0
        · subst hc15
          rw [if_pos rfl] at H
          obtain ⟨hx0, hx1⟩ := hx rfl
          have h7 := (hr0 rfl).1; clear hx hr0; have hrd := Aside0.mk hr
          have H' := Aside0.mk H
          have C1 := Aside0.mk hc; clear hr H hc
          go_wp2_with fail
          refine (log_Read 5 L d base sectors run all dur lsn y1 y2 y3 y4 y5 y6 y7 y8 y9 y10 y11 y12 y13 y14 0 wr hLr.out HF.out (by have := C1.out; omega) (by have := HS.out; omega) hrd.out).mono ?_
          rintro e w1 ⟨v9, v10, rfl, q9, q10, hb⟩
          obtain ⟨A9, c9, rfl⟩ := Kd.R_slice q9
          obtain ⟨A10, c10, rfl⟩ := Kd.R_slice q10
          have hcb := below_cell (below_alloc (below_step (Below.refl _ _) hb) (.cells #[.int .i64 y1, .int .i64 y2, .int .i64 y3, .int .i64 y4, .int .i64 y5, .string y6, .string y7, .string y8, .int .i64 y9, .slice A9 y10.length c9, .slice A10 y11.length c10, .int .i64 y12, .int .i64 y13] 32)) hcr
          have HT1 := TblAt.kept HT.out (below_alloc hb (.cells #[.int .i64 y1, .int .i64 y2, .int .i64 y3, .int .i64 y4, .int .i64 y5, .string y6, .string y7, .string y8, .int .i64 y9, .slice A9 y10.length c9, .slice A10 y11.length c10, .int .i64 y12, .int .i64 y13] 32))
          have HB1 := below_alloc (below_step HB0.out hb) (.cells #[.int .i64 y1, .int .i64 y2, .int .i64 y3, .int .i64 y4, .int .i64 y5, .string y6, .string y7, .string y8, .int .i64 y9, .slice A9 y10.length c9, .slice A10 y11.length c10, .int .i64 y12, .int .i64 y13] 32)
          have HK1 : w.heap.size ≤ (w1.alloc (.cells #[.int .i64 y1, .int .i64 y2, .int .i64 y3, .int .i64 y4, .int .i64 y5, .string y6, .string y7, .string y8, .int .i64 y9, .slice A9 y10.length c9, .slice A10 y11.length c10, .int .i64 y12, .int .i64 y13] 32)).heap.size ∧ ∀ i, i < w.heap.size → i ≠ m → (w1.alloc (.cells #[.int .i64 y1, .int .i64 y2, .int .i64 y3, .int .i64 y4, .int .i64 y5, .string y6, .string y7, .string y8, .int .i64 y9, .slice A9 y10.length c9, .slice A10 y11.length c10, .int .i64 y12, .int .i64 y13] 32)).heap[i]? = w.heap[i]? := ⟨Nat.le_trans HK.out.1 (below_alloc hb (.cells #[.int .i64 y1, .int .i64 y2, .int .i64 y3, .int .i64 y4, .int .i64 y5, .string y6, .string y7, .string y8, .int .i64 y9, .slice A9 y10.length c9, .slice A10 y11.length c10, .int .i64 y12, .int .i64 y13] 32)).size, fun i hi hne => ((below_alloc hb (.cells #[.int .i64 y1, .int .i64 y2, .int .i64 y3, .int .i64 y4, .int .i64 y5, .string y6, .string y7, .string y8, .int .i64 y9, .slice A9 y10.length c9, .slice A10 y11.length c10, .int .i64 y12, .int .i64 y13] 32)).block i (Nat.lt_of_lt_of_le hi HK.out.1)).trans (HK.out.2 i hi hne)⟩
          have HFN := Aside0.mk (tab_fn B m n1 l1 y1 y2 y3 y4 y5 y6 y7 y8 y9 A9 y10.length c9 A10 y11.length c10 y12 y13 lsn w0 (w1.alloc (.cells #[.int .i64 y1, .int .i64 y2, .int .i64 y3, .int .i64 y4, .int .i64 y5, .string y6, .string y7, .string y8, .int .i64 y9, .slice A9 y10.length c9, .slice A10 y11.length c10, .int .i64 y12, .int .i64 y13] 32)) hcb HT1 HR.out.1 hx0 (by omega) (by have := HF.out; omega) (by have := C1.out; have := HS.out; omega) (by have := HQ.out; have := HN.out; unfold maxLen; omega) HB1 HM0.out)
          have HKa := Aside0.mk HK1
          have HRs := Aside0.mk (GoodT.step HR.out y1 y2 lsn (fun _ => ⟨hx0, hx1⟩))
          have H7 := Aside0.mk h7; clear hcb HT1 HB1 HK1 q9 q10 hb hx0 hx1 h7 hcr hLr HT HB0 HK HR b0
          go_wp2_with fail
          refine HFN.out.mono ?_
          rintro e w2 ⟨rfl, ht, hb2, hsz, hk2⟩
          have HT2 := Aside0.mk ht; have HB2 := Aside0.mk hb2
          have HK2 : Aside0 (w.heap.size ≤ w2.heap.size ∧ ∀ i, i < w.heap.size → i ≠ m → w2.heap[i]? = w.heap[i]?) := ⟨Nat.le_trans HKa.out.1 hsz, fun i hi hne => (hk2 i (Nat.lt_of_lt_of_le hi HKa.out.1) hne).trans (HKa.out.2 i hi hne)⟩
          clear ht hb2 hsz hk2 HKa HFN
          go_wp2_with fail
          go_roundg k1
          case measure => omega
          case rel => exact ⟨y14, stepT l1 y1 y2 lsn, n1 + 1, rfl, H', ⟨by have := H7.out; have := HF.out; omega⟩, HT2, HRs, ⟨by have := HQ.out; omega⟩, HB2, HK2⟩
        · rw [if_neg hc15] at H
          simp only [Option.some.injEq, Prod.mk.injEq] at H
          obtain ⟨rfl, rfl⟩ := H
          have b15 : (y15 == 0) = false := beq_eq_false_iff_ne.mpr hc15
          clear hx hr0; have hrd := Aside0.mk hr; have C1 := Aside0.mk hc; clear hr hc
          go_wp2_with fail
          refine (log_Read 5 L d base sectors run all dur lsn y1 y2 y3 y4 y5 y6 y7 y8 y9 y10 y11 y12 y13 y14 y15 wr hLr.out HF.out (by have := C1.out; omega) (by have := HS.out; omega) hrd.out).mono ?_
          rintro e w1 ⟨v9, v10, rfl, q9, q10, hb⟩
          obtain ⟨A9, c9, rfl⟩ := Kd.R_slice q9
          obtain ⟨A10, c10, rfl⟩ := Kd.R_slice q10
          have HT1 := Aside0.mk (TblAt.kept HT.out hb); have HB1 := Aside0.mk (below_step HB0.out hb)
          have HK1 : Aside0 (w.heap.size ≤ w1.heap.size ∧ ∀ i, i < w.heap.size → i ≠ m → w1.heap[i]? = w.heap[i]?) := ⟨Nat.le_trans HK.out.1 hb.size, fun i hi hne => (hb.block i (Nat.lt_of_lt_of_le hi HK.out.1)).trans (HK.out.2 i hi hne)⟩
          have HR1 := HR; have HQ1 := HQ; clear q9 q10 hb hcr hLr HT HB0 HK HR b0 hc15
          go_wp2_with fail
          go_ret
          refine ⟨.inr ⟨rfl, _, rfl⟩, ⟨n1, by have := HQ1.out; omega, TblAt.kept HT1.out (below_alloc (below_alloc (Below.refl _ _) _) _)⟩, HR1.out, below_alloc (below_alloc HB1.out _) _, ?_, fun i hi hne => ?_⟩
          · exact Nat.le_trans HK1.out.1 (below_alloc (below_alloc (Below.refl _ _) _) _).size
          · exact ((below_alloc (below_alloc (Below.refl _ _) _) _).block i (Nat.lt_of_lt_of_le hi HK1.out.1)).trans (HK1.out.2 i hi hne)
      · rw [if_neg hc] at H
        have b0 : decide (lsn < (all.size : Int) + 1) = false := decide_eq_false hc
        simp only [Option.some.injEq, Prod.mk.injEq] at H
        obtain ⟨rfl, rfl⟩ := H
        go_wp2_with fail
        go_ret
        exact ⟨.inl ⟨rfl, rfl⟩, ⟨n1, by have := HQ.out; omega, HT.out⟩, HR.out, HB0.out, HK.out.1, HK.out.2⟩
end Go.Proofs.YteoebfiacnploaaGreat.HRec
/-
  DERIVED: THE SHELF's CONTRACTS AT THIS DUMP, IN PLAIN WORDS (tools/lay-plain.mjs out of 'YteoebfiacnploaaGreatSortL.lean', which tools/lay-shelf.mjs wrote): THE SAME DECLARATIONS UNDER THE SAME NAMES: 'import', 'namespace', 'open', 'def', 'theorem' AND NOTHING ELSE: no command of the shelf's: FOR A HAND-IN. Each laying: the table of numbers ('.._ren') and one theorem, a field a fact of the dump's own or the kernel's comparison; each contract: ONE APPLICATION.
-/
namespace Go.Proofs
open Go.Shelf
def Tryz.sortLay_ren : Go.Shelf.Ren := ⟨fun | 6 => 36 | 15 => 56 | 14 => 55 | 28 => 87 | 29 => 88 | 20 => 79 | 21 => 80 | 22 => 81 | 23 => 82 | 24 => 83 | 25 => 84 | 26 => 85 | 27 => 86 | 46 => 98 | 47 => 99 | 48 => 100 | 49 => 101 | 50 => 102 | 57 => 111 | n => n, fun | 22 => 29 | 24 => 36 | 25 => 88 | 3 => 3 | 39 => 111 | 0 => 0 | 53 => 140 | 55 => 76 | 4 => 4 | 46 => 133 | 45 => 132 | 50 => 137 | 5 => 5 | 9 => 9 | 66 => 151 | 70 => 155 | 76 => 165 | 77 => 38 | n => n, fun | n => n⟩
theorem Tryz.sortLay : Go.Proofs.SlLaysF0.n6 Tryz.prog Tryz.sortLay_ren := {
  mixed := by kernel_rfl
  f6 := ⟨Tryz.f36.name, by decide, Tryz.func36.trans (congrArg some (by kernel_rfl))⟩
  f14 := ⟨Tryz.f55.name, by decide, Tryz.func55.trans (congrArg some (by kernel_rfl))⟩
  f15 := Tryz.func56.trans (congrArg some (by kernel_rfl))
  f20 := ⟨Tryz.f79.name, by decide, Tryz.func79.trans (congrArg some (by kernel_rfl))⟩
  f21 := ⟨Tryz.f80.name, by decide, Tryz.func80.trans (congrArg some (by kernel_rfl))⟩
  f22 := ⟨Tryz.f81.name, by decide, Tryz.func81.trans (congrArg some (by kernel_rfl))⟩
  f23 := ⟨Tryz.f82.name, by decide, Tryz.func82.trans (congrArg some (by kernel_rfl))⟩
  f24 := ⟨Tryz.f83.name, by decide, Tryz.func83.trans (congrArg some (by kernel_rfl))⟩
  f25 := ⟨Tryz.f84.name, by decide, Tryz.func84.trans (congrArg some (by kernel_rfl))⟩
  f26 := ⟨Tryz.f85.name, by decide, Tryz.func85.trans (congrArg some (by kernel_rfl))⟩
  f27 := ⟨Tryz.f86.name, by decide, Tryz.func86.trans (congrArg some (by kernel_rfl))⟩
  f28 := Tryz.func87.trans (congrArg some (by kernel_rfl))
  f29 := Tryz.func88.trans (congrArg some (by kernel_rfl))
  f46 := ⟨Tryz.f98.name, by decide, Tryz.func98.trans (congrArg some (by kernel_rfl))⟩
  f47 := Tryz.func99.trans (congrArg some (by kernel_rfl))
  f48 := Tryz.func100.trans (congrArg some (by kernel_rfl))
  f49 := ⟨Tryz.f101.name, by decide, Tryz.func101.trans (congrArg some (by kernel_rfl))⟩
  f50 := ⟨Tryz.f102.name, by decide, Tryz.func102.trans (congrArg some (by kernel_rfl))⟩
  f57 := ⟨Tryz.f111.name, by decide, Tryz.func111.trans (congrArg some (by kernel_rfl))⟩
  t0 := Tryz.underlying0
  a0 := Tryz.isAgg0
  z0 := Tryz.sizeOf0
  v0 := Tryz.zeroValue0
  t3 := Tryz.underlying3
  a3 := Tryz.isAgg3
  z3 := Tryz.sizeOf3
  v3 := Tryz.zeroValue3
  t4 := Tryz.underlying4
  a4 := Tryz.isAgg4
  z4 := Tryz.sizeOf4
  v4 := Tryz.zeroValue4
  t5 := Tryz.underlying5
  a5 := Tryz.isAgg5
  z5 := Tryz.sizeOf5
  v5 := Tryz.zeroValue5
  t9 := Tryz.underlying9
  a9 := Tryz.isAgg9
  z9 := Tryz.sizeOf9
  v9 := Tryz.zeroValue9
  t22 := Tryz.underlying29
  a22 := Tryz.isAgg29
  z22 := Tryz.sizeOf29
  v22 := Tryz.zeroValue29
  t25 := Tryz.underlying88
  a25 := Tryz.isAgg88
  z25 := Tryz.sizeOf88
  v25 := Tryz.zeroValue88
  t39 := Tryz.underlying111
  a39 := Tryz.isAgg111
  z39 := Tryz.sizeOf111
  v39 := Tryz.zeroValue111
  t45 := Tryz.underlying132
  a45 := Tryz.isAgg132
  z45 := Tryz.sizeOf132
  v45 := Tryz.zeroValue132
  t46 := Tryz.underlying133
  a46 := Tryz.isAgg133
  z46 := Tryz.sizeOf133
  v46 := Tryz.zeroValue133
  t50 := Tryz.underlying137
  a50 := Tryz.isAgg137
  z50 := Tryz.sizeOf137
  v50 := Tryz.zeroValue137
  t53 := Tryz.underlying140
  a53 := Tryz.isAgg140
  z53 := Tryz.sizeOf140
  v53 := Tryz.zeroValue140
  t55 := Tryz.underlying76
  a55 := Tryz.isAgg76
  z55 := Tryz.sizeOf76
  v55 := Tryz.zeroValue76
  t66 := Tryz.underlying151
  a66 := Tryz.isAgg151
  z66 := Tryz.sizeOf151
  v66 := Tryz.zeroValue151
  t70 := Tryz.underlying155
  a70 := Tryz.isAgg155
  z70 := Tryz.sizeOf155
  v70 := Tryz.zeroValue155
  t76 := Tryz.underlying165
  a76 := Tryz.isAgg165
  z76 := Tryz.sizeOf165
  v76 := Tryz.zeroValue165
  t77 := Tryz.underlying38
  a77 := Tryz.isAgg38
  z77 := Tryz.sizeOf38
  v77 := Tryz.zeroValue38 }
end Go.Proofs
namespace Go.Proofs.YteoebfiacnploaaGreat.HRec
open Go.RowKit Go.Proofs.YteoebfiacnploaaGreatW.PrintWords Go.Proofs.YteoebfiacnploaaGreatW.PrintLast Go.Proofs.YteoebfiacnploaaGreatW.PrintMore
set_option linter.unusedVariables false
set_option linter.unusedSimpArgs false
/-- An entry whose transaction is in its bounds. -/
structure SB where
  val : S36
  ok : 0 ≤ val.f0 ∧ val.f0 < 281474976710656
instance : Inhabited SB := ⟨⟨⟨0, 0⟩, by decide⟩⟩
def encSB (x : SB) : List Value := [.int .i64 x.1.f0, .int .i64 x.1.f1]
def cfSB (x y : SB) : Int := x.1.f0 - y.1.f0
theorem ltSB (x y : SB) : ltOf cfSB x y = decide (x.1.f0 < y.1.f0) := by
  unfold ltOf cfSB
  by_cases h : x.1.f0 < y.1.f0
  · rw [decide_eq_true h, decide_eq_true (by omega)]
  · rw [decide_eq_false h, decide_eq_false (by omega)]
theorem swoSB : Go.Sort.SWO (ltOf cfSB) where
  irrefl x := by rw [ltSB]; simp
  trans x y z h1 h2 := by rw [ltSB] at *; simp at *; omega
  ntrans x y z h1 h2 := by rw [ltSB] at *; simp at *; omega
set_option maxHeartbeats 2000000 in
theorem sort_cmp (x y : SB) (W : World) : Calls Tryz.prog 37 #[.agg #[.int .i64 x.1.f0, .int .i64 x.1.f1], .agg #[.int .i64 y.1.f0, .int .i64 y.1.f1]] W fun e w' => e = .returned (.int .i64 (cfSB x y)) ∧ ∃ q os', w' = Go.Sort.grow (W.drewN q) os' := by
  obtain ⟨⟨a, b⟩, h0, h1⟩ := x
  obtain ⟨⟨c, d⟩, g0, g1⟩ := y
  have hw : wrap64 (a - c) = a - c := w64 (by dsimp only at *; omega) (by dsimp only at *; omega)
  show Calls Tryz.prog 37 #[.agg #[.int .i64 a, .int .i64 b], .agg #[.int .i64 c, .int .i64 d]] W fun e w' => e = .returned (.int .i64 (a - c)) ∧ ∃ q os', w' = Go.Sort.grow (W.drewN q) os'
  clear h0 h1 g0 g1
  go_enter Tryz.func37, Tryz.ntmps37
  go_wp2_with fail
  go_ret
  refine ⟨by first | rfl | (rw [hw]; rfl), 0, _, by rw [Go.Sort.alloc_eq_grow, Go.Sort.alloc_eq_grow, Go.Sort.grow_grow]; rfl⟩
theorem sort_lays (blk off size : Nat) (w : World) : CmpLays Tryz.prog 37 #[] encSB 2 cfSB blk off size w := fun _ _ _ _ x y => sort_cmp x y _
theorem sort_none (c : Nat) (w : World) : Calls Tryz.prog 36 #[.slice none 0 c, .func (.func 37) #[] #[]] w fun e w' => e = .returned (.tuple #[]) ∧ w' = w := AnyF.slices_SortFunc_none Tryz.sortLay none c _ w
/-- A row's entries with their bounds. -/
def toSB (ks : List S36) (hb : ∀ x ∈ ks, 0 ≤ x.f0 ∧ x.f0 < 281474976710656) : Array SB := (ks.pmap (fun x h => (⟨x, h⟩ : SB)) hb).toArray
theorem toSB_size (ks : List S36) (hb) : (toSB ks hb).size = ks.length := by unfold toSB; rw [List.size_toArray, List.length_pmap]
theorem pm_map : ∀ (ks : List S36) (hb : ∀ x ∈ ks, 0 ≤ x.f0 ∧ x.f0 < 281474976710656), (List.pmap (fun x h => (⟨x, h⟩ : SB)) ks hb).map (fun x => x.val) = ks
  | [], _ => rfl
  | x :: r, h => by rw [List.pmap_cons, List.map_cons, pm_map r]
theorem toSB_get (ks : List S36) (hb) (j : Nat) (h : j < ks.length) : (toSB ks hb)[j]!.1 = ks[j] := by
  rw [getElem!_pos (toSB ks hb) j (by rw [toSB_size]; exact h)]
  unfold toSB
  rw [List.getElem_toArray, List.getElem_pmap]
theorem encSB_0 (x : SB) : (encSB x)[0]! = .int .i64 x.1.f0 := rfl
theorem encSB_1 (x : SB) : (encSB x)[1]! = .int .i64 x.1.f1 := rfl
theorem sort_holds {wr : World} {base g cap : Nat} {ok : Nat → Prop} {ks : List S36} (h : Kd.R k36 36 wr base ok (.slice (some ⟨g, 0, none⟩) ks.length cap) ks) (hb) : Go.Sort.HoldsK encSB 2 wr g 0 (toSB ks hb) ∧ g < wr.heap.size ∧ base ≤ g := by
  obtain ⟨_, inner, ho, hr⟩ := h
  obtain ⟨hl, hn⟩ := ho
  rcases hn with ⟨hn, _⟩ | ⟨g', cap', cur, hv, hbg, hheap, hc1, hc2, hsz, htk⟩
  · cases hn
  · cases hv
    have hlt : g < wr.heap.size := (Array.getElem?_eq_some_iff.1 hheap).1
    refine ⟨fun t ht => ?_, hlt, hbg⟩
    rw [Go.Sort.size_flatK, toSB_size] at ht
    have hj : t / 2 < ks.length := by omega
    have hcell : wr.cell? ⟨g, 0 + t, none⟩ = cur[t]? := by
      unfold World.cell?
      dsimp only
      rw [hheap]
      simp
    have hp := hr.2 (t / 2) ks[t / 2] (List.getElem?_eq_getElem hj)
    have ho := k36_openM hp
    have hin : inner[t]? = some ((encSB (toSB ks hb)[t / 2]!)[t % 2]!) := by
      have e1 : inner[t]? = ((inner.drop (t / 2 * 2)).take 2)[t % 2]? := by
        rw [List.getElem?_take, if_pos (Nat.mod_lt _ (by decide)), List.getElem?_drop]
        congr 1
        omega
      change ((inner.drop (t / 2 * 2)).take 2) = _ at ho
      rw [e1, ho]
      have e2 := toSB_get ks hb (t / 2) hj
      rcases (show t % 2 = 0 ∨ t % 2 = 1 by omega) with e | e
      · rw [e, encSB_0, e2]; rfl
      · rw [e, encSB_1, e2]; rfl
    have hk2 : k36.sz = 2 := rfl
    rw [hk2] at htk
    have hcur : cur[t]? = inner[t]? := by
      rw [← htk, List.getElem?_take, if_pos (by omega)]
      simp
    refine ⟨?_, ?_⟩
    · rw [hcell, hcur, hin, Go.Sort.get_flatK _ _ _ _ (by rw [toSB_size]; exact ht)]
      rfl
    · unfold World.frozen?
      dsimp only
      rw [hheap]
      simp
theorem below_sort {w wr : World} {g : Nat} (hb : Below w.heap.size w wr) (hg : w.heap.size ≤ g) (n : Nat) (d : Array SB) (os : Array Obj) : Below w.heap.size w (sortWorldK encSB 2 wr g 0 n d os) := by
  refine ⟨hb.os, hb.tape, hb.output, ?_, fun k hk => ?_⟩
  · exact Nat.le_trans hb.size (size_sortWorldK_c encSB 2 wr g 0 n d os)
  · unfold sortWorldK
    rw [Go.Sort.heap_grow_old _ _ (by show k < (Go.Sort.putRow id (Go.Sort.ahead wr n) g 0 _).heap.size; rw [Go.Sort.size_putRow]; exact Nat.lt_of_lt_of_le hk hb.size)]
    show ((Go.Sort.ahead wr n).heap.modify g _)[k]? = _
    rw [Array.getElem?_modify, if_neg (by omega)]
    exact hb.block k hk
theorem sort_row {w wr : World} {g cap : Nat} {ok : Nat → Prop} {ks : List S36} (h : Kd.R k36 36 wr w.heap.size ok (.slice (some ⟨g, 0, none⟩) ks.length cap) ks) (hbd : ∀ x ∈ ks, 0 ≤ x.f0 ∧ x.f0 < 281474976710656) (hb : Below w.heap.size w wr) (hl : ks.length ≤ 1000000) :
    Calls Tryz.prog 36 #[.slice (some ⟨g, 0, none⟩) ks.length cap, .func (.func 37) #[] #[]] wr fun e w' => e = .returned (.tuple #[]) ∧ ∃ ds : List S36, ds.Perm ks ∧ ds.Pairwise (fun x y => x.f0 ≤ y.f0) ∧ Kd.C k36 w' (some ⟨g, 0, none⟩) ks.length ds ∧ Below w.heap.size w w' := by
  obtain ⟨hH, hlt, hg⟩ := sort_holds h hbd
  have hs := toSB_size ks hbd
  have eg : ∀ args w, (callFunc 37 args).run Tryz.prog w = .ok (.enter 37 args) w := enters_of Tryz.func37 (by kernel_rfl) rfl
  have hcon := AnyQ.slices_SortFunc Tryz.sortLay 2 Tryz.isAgg36 Tryz.sizeOf36 encSB (fun _ => rfl) (fun x v hv => by simp [encSB] at hv; rcases hv with rfl | rfl <;> rfl) cfSB swoSB 37 #[] g 0 cap (toSB ks hbd) wr eg (sort_lays g 0 _ wr) hH hlt (by omega)
  rw [hs] at hcon
  change Calls Tryz.prog 36 _ _ _ at hcon
  refine hcon.mono ?_
  rintro e w' ⟨rfl, d', n, os, hp, hsd, rfl⟩
  refine ⟨rfl, d'.toList.map (·.1), ?_, ?_, ?_, below_sort hb hg n d' os⟩
  · have h3 := hp.2.2
    have h1 := hp.1
    rw [hs] at h1
    have e1 : d'.extract 0 ks.length = d' := by rw [← h1]; simp
    have e2 : (toSB ks hbd).extract 0 ks.length = toSB ks hbd := by rw [← hs]; simp
    rw [e1, e2] at h3
    have h4 := h3.map (·.1)
    have e3 : (toSB ks hbd).toList.map (·.1) = ks := pm_map ks hbd
    rw [e3] at h4
    exact h4
  · rw [List.pairwise_map, List.pairwise_iff_getElem]
    intro i j hi hj hij
    have h1 := hp.1
    rw [hs] at h1
    simp only [Array.length_toList] at hi hj
    have := hsd i j (Nat.zero_le _) hij (by omega)
    rw [ltSB, getElem!_pos d' i hi, getElem!_pos d' j hj] at this
    simp only [Array.getElem_toList]
    have := of_decide_eq_false this
    omega
  · have h1 := hp.1
    refine ⟨by simp; omega, by omega, fun _ => ⟨_, rfl, fun j p hj => ?_⟩⟩
    rw [List.getElem?_map] at hj
    obtain ⟨y, hy, rfl⟩ := Option.map_eq_some_iff.mp hj
    have hjl : j < d'.size := by
      have := (List.getElem?_eq_some_iff.mp hy).1
      simpa using this
    have hy2 : d'[j]! = y := by
      rw [getElem!_pos d' j hjl]
      have := (List.getElem?_eq_some_iff.mp hy).2
      simpa using this
    have hK := holdsK_sortWorldK_c encSB 2 wr g 0 (toSB ks hbd) d' n os hH hlt h1
    refine ⟨[.int .i64 y.1.f0, .int .i64 y.1.f1], rfl, k36_mk _ y.1, fun i u hu => ?_⟩
    have hi : i < 2 := by
      have := (List.getElem?_eq_some_iff.mp hu).1
      simpa using this
    have hc := (Go.Sort.HoldsK.cell hK hjl hi).1
    rw [hy2] at hc
    have hk2 : k36.sz = 2 := rfl
    rw [hk2]
    have hadd : (Addr.mk g 0 none).add (j * 2 + i) = ⟨g, 0 + j * 2 + i, none⟩ := by
      unfold Addr.add
      by_cases hz : j * 2 + i = 0
      · rw [if_pos hz, Nat.add_assoc, hz]
      · rw [if_neg hz, Nat.add_assoc]
    rw [hadd, hc]
    have he : (encSB y)[i]! = u := by
      rcases (show i = 0 ∨ i = 1 by omega) with e | e
      · subst e; injection hu
      · subst e; injection hu
    rw [he]
end Go.Proofs.YteoebfiacnploaaGreat.HRec
namespace Go.Proofs.YteoebfiacnploaaGreat.HRec
open Go.RowKit Go.Proofs.YteoebfiacnploaaGreatW.PrintWords Go.Proofs.YteoebfiacnploaaGreatW.PrintLast Go.Proofs.YteoebfiacnploaaGreatW.PrintMore
set_option linter.unusedVariables false
set_option linter.unusedSimpArgs false
theorem rising_unique : ∀ (l l' : List S36), Rising l → Rising l' → (∀ x, x ∈ l ↔ x ∈ l') → l = l'
  | [], [], _, _, _ => rfl
  | [], y :: r, _, _, h => absurd ((h y).mpr List.mem_cons_self) (List.not_mem_nil)
  | x :: r, [], _, _, h => absurd ((h x).mp List.mem_cons_self) (List.not_mem_nil)
  | x :: r, y :: s, h1, h2, h => by
    obtain ⟨a1, a2⟩ := List.pairwise_cons.mp h1
    obtain ⟨b1, b2⟩ := List.pairwise_cons.mp h2
    have hxy : x = y := by
      rcases List.mem_cons.mp ((h x).mp List.mem_cons_self) with e | e
      · exact e
      rcases List.mem_cons.mp ((h y).mpr List.mem_cons_self) with e' | e'
      · exact e'.symm
      have := b1 x e
      have := a1 y e'
      omega
    subst hxy
    rw [rising_unique r s a2 b2 (fun z => ⟨fun hz => ?_, fun hz => ?_⟩)]
    · rcases List.mem_cons.mp ((h z).mp (List.mem_cons_of_mem _ hz)) with e | e
      · subst e; have := a1 z hz; omega
      · exact e
    · rcases List.mem_cons.mp ((h z).mpr (List.mem_cons_of_mem _ hz)) with e | e
      · subst e; have := b1 z hz; omega
      · exact e
/-- What the range over a table's map has handed out. -/
structure Seen (l : List S36) (left : Lit → Bool) (ks : List S36) : Prop where
  sub : ∀ x ∈ ks, x ∈ l ∧ left (.int .i64 x.f0) = false
  all : ∀ x ∈ l, left (.int .i64 x.f0) = false → x ∈ ks
  apart : ks.Pairwise (fun x y => x.f0 ≠ y.f0)
theorem has_tbl (l : List S36) (x : S36) (h : x ∈ l) : Maps.has (DataW.map (tblD l)) (.int .i64 x.f0) = true := by
  show (tblD l).any (fun p => p.1.sameKey (.int .i64 x.f0)) = true
  rw [List.any_eq_true]
  exact ⟨(Lit.int .i64 x.f0, DataW.lit (Lit.int .i64 x.f1)), List.mem_map.mpr ⟨x, h, rfl⟩, by rw [same_key]; simp⟩
theorem Seen.start (l : List S36) : Seen l (Maps.has (DataW.map (tblD l))) [] where
  sub := fun x hx => absurd hx (List.not_mem_nil)
  all := fun x hx h => by rw [has_tbl l x hx] at h; exact absurd h (by decide)
  apart := List.Pairwise.nil
theorem tbl_at (l : List S36) (x c : Int) (h : ∀ zd, (DataW.map (tblD l)).atKey (.int .i64 x) zd = .lit (.int .i64 c)) : (⟨x, c⟩ : S36) ∈ l := by
  have hz := h (.map [])
  unfold DataW.atKey at hz
  dsimp only at hz
  split at hz
  · rename_i p hp
    have hm := List.mem_of_find?_eq_some hp
    have hk := List.find?_some hp
    obtain ⟨y, hy, rfl⟩ := List.mem_map.mp hm
    simp only [same_key, decide_eq_true_eq] at hk
    simp only [DataW.lit.injEq, Lit.int.injEq, true_and] at hz
    have : y = ⟨x, c⟩ := by cases y; simp_all
    exact this ▸ hy
  · exact absurd hz (by simp)
theorem Seen.step {l : List S36} {left : Lit → Bool} {ks : List S36} (h : Seen l left ks) (hr : Rising l) {x c : Int} (hl : left (.int .i64 x) = true) (hm : (⟨x, c⟩ : S36) ∈ l) : Seen l (fun z => left z && !z.sameKey (.int .i64 x)) (ks ++ [⟨x, c⟩]) where
  sub := fun y hy => by
    rcases List.mem_append.mp hy with hy | hy
    · obtain ⟨h1, h2⟩ := h.sub y hy
      exact ⟨h1, by rw [h2]; rfl⟩
    · rw [List.mem_singleton.mp hy]
      exact ⟨hm, by rw [same_key]; simp⟩
  all := fun y hy hf => by
    rw [same_key] at hf
    by_cases he : y.f0 = x
    · have : y = ⟨x, c⟩ := by
        rcases Classical.em (y = ⟨x, c⟩) with e | e
        · exact e
        · exact absurd he (rising_apart hr hy hm e)
      rw [this]
      exact List.mem_append_right _ (List.mem_singleton.mpr rfl)
    · refine List.mem_append_left _ (h.all y hy ?_)
      simpa [he] using hf
  apart := by
    refine List.pairwise_append.mpr ⟨h.apart, List.pairwise_singleton _ _, fun y hy z hz => ?_⟩
    rw [List.mem_singleton.mp hz]
    intro e
    have := (h.sub y hy).2
    rw [show y.f0 = x from e, hl] at this
    exact absurd this (by decide)
where
  rising_apart {l : List S36} (hr : Rising l) {y z : S36} (hy : y ∈ l) (hz : z ∈ l) (hne : y ≠ z) : y.f0 ≠ z.f0 := by
    induction l with
    | nil => exact absurd hy (List.not_mem_nil)
    | cons a r ih =>
      obtain ⟨a1, a2⟩ := List.pairwise_cons.mp hr
      rcases List.mem_cons.mp hy with e1 | e1
      · rcases List.mem_cons.mp hz with e2 | e2
        · exact absurd (e1.trans e2.symm) hne
        · have := a1 z e2; rw [e1]; omega
      · rcases List.mem_cons.mp hz with e2 | e2
        · have := a1 y e1; rw [e2]; omega
        · exact ih a2 e1 e2
theorem Seen.fits {l : List S36} {left : Lit → Bool} {ks ds : List S36} (h : Seen l left ks) (hr : Rising l) (hl : ∀ kl, left kl = false) (hp : ds.Perm ks) (hs : ds.Pairwise (fun x y => ¬ y.f0 < x.f0)) : ds = l := by
  have ha : ds.Pairwise (fun x y => x.f0 ≠ y.f0) := (hp.pairwise_iff (fun {_ _} e => Ne.symm e)).mpr h.apart
  have hrs : Rising ds := List.Pairwise.imp (fun {x y} ⟨h1, h2⟩ => by omega) (List.Pairwise.and hs ha)
  refine rising_unique ds l hrs hr (fun x => ⟨fun hx => (h.sub x (hp.mem_iff.mp hx)).1, fun hx => hp.mem_iff.mpr (h.all x hx (hl _))⟩)
end Go.Proofs.YteoebfiacnploaaGreat.HRec
