/- Texts of this proof, put together: RedoG, PureTbl. They prove no statement. -/
import Derived.Test.YteoebfiacnploaaGreatQG21
import Derived.Test.YteoebfiacnploaaGreatQG22
import Derived.Test.YteoebfiacnploaaGreatQG15
import Derived.Test.YteoebfiacnploaaGreatQG3
namespace Go.Proofs.YteoebfiacnploaaGreat.HRec
open Go.RowKit Go.Proofs.YteoebfiacnploaaGreatW.PrintWords Go.Proofs.YteoebfiacnploaaGreatW.PrintLast Go.Proofs.YteoebfiacnploaaGreatW.PrintMore
set_option linter.unusedVariables false
set_option linter.unusedSimpArgs false
/-- The first entries of a table, put one by one. -/
def putTo (T : List S36) : Nat → List S36
  | 0 => []
  | n + 1 => putS (putTo T n) (rd_T36 T (n : Int)).f0 (rd_T36 T (n : Int)).f1
theorem GoodT.putTo (T : List S36) (h : ∀ x ∈ T, actOk x) : ∀ n, n ≤ T.length → GoodT (putTo T n)
  | 0, _ => GoodT.nil
  | n + 1, hn => by
    have hx : rd_T36 T (n : Int) ∈ T := by
      unfold rd_T36
      rw [Int.toNat_natCast, List.getD_eq_getElem?_getD, List.getElem?_eq_getElem (by omega)]
      exact List.getElem_mem _
    have ho := h _ hx
    exact (GoodT.putTo T h n (by omega)).put _ ho.1 ho.2.1
theorem act_get {T : List S36} (h : ∀ x ∈ T, actOk x) {i : Int} (h0 : 0 ≤ i) (h1 : i < (T.length : Int)) : actOk (rd_T36 T i) := by
  refine h _ ?_
  unfold rd_T36
  rw [List.getD_eq_getElem?_getD, List.getElem?_eq_getElem (by omega)]
  exact List.getElem_mem _
/-- What is told behind all records: the table, or damage. -/
def endT (r : List S36 × Int) : List S36 × Int := if r.2 = 0 then (r.1, 0) else ([], 20)
/-- Who went on at the log's end. -/
def tableF (all : ByteArray) (chk : Int) : Option (List S36 × Int) :=
  if chk < 1 then (eachT 11602 all [] 1).map endT
  else if (all.size : Int) < chk then some ([], 20)
  else (readF 5 all chk).bind fun r => if r.2.2.2.2.2.2.2.2.2.2.2.2.2.2 = 0 ∧ r.1 = 9 then (eachT 11602 all (putTo r.2.2.2.2.2.2.2.2.2.2.1 r.2.2.2.2.2.2.2.2.2.2.1.length) r.2.2.2.2.2.2.2.2.2.2.2.2.2.1).map endT else some ([], 20)
/-- A cell outside a map's block. -/
theorem cell_off {W W' : World} {m n : Nat} {l : List S36} {p : Addr} {v : Value} (hT : TblAt W m n l) (hk : ∀ i, i < W.heap.size → i ≠ m → W'.heap[i]? = W.heap[i]?) (hc : W.cell? p = some v) : W'.cell? p = some v := by
  have hlt := heap_of_cell hc
  have hne : p.block ≠ m := by
    intro e
    obtain ⟨es, clock, hb, _⟩ := hT
    unfold World.cell? at hc
    rw [e, hb] at hc
    exact absurd hc (by simp)
  exact (World.cell?_of_block (w := W) (a := p) (hk _ hlt hne)).trans hc
set_option maxHeartbeats 16000000 in
set_option maxRecDepth 100000 in
theorem redo_Table0 (L d : Nat) (base sectors run : Int) (all : ByteArray) (dur chk : Int) (R : List S36) (c : Int) (w : World) (hL : IsLog w L d base sectors run all dur) (hs : all.size ≤ 11600) (hc : chk < 1) (h : eachT 11602 all [] 1 = some (R, c)) :
    Calls Tryz.prog 14 #[.pointer (some ⟨L, 0, none⟩), .int .i64 chk] w fun e w' => ∃ A cap, e = .returned (.tuple #[.slice A (endT (R, c)).1.length cap, .int .i64 (endT (R, c)).2]) ∧ (endT (R, c)).1.length ≤ cap ∧ Kd.C k36 w' A (endT (R, c)).1.length (endT (R, c)).1 ∧ Below w.heap.size w w' := by
  have hu32 := Tryz.underlying32
  have hmm := @run_makeMap Tryz.prog
  have b0 : decide (0 < chk) = false := decide_eq_false (by omega)
  have HLT := Aside0.mk (Array.getElem?_eq_some_iff.1 hL).1
  have hb1 := below_alloc (below_alloc (Below.refl w.heap.size w) (.map #[] 0)) (.cells #[.map (some w.heap.size)] 63)
  have HB1 := Aside0.mk hb1; have HL1 := Aside0.mk (IsLog.below hL hb1)
  have hT0 : TblAt (w.alloc (.map #[] 0)) w.heap.size 0 [] := World.ownsMap_made w Tryz.prog 3 _
  have HT1 := Aside0.mk (TblAt.kept hT0 (below_alloc (Below.refl _ _) (.cells #[.map (some w.heap.size)] 63)))
  have hsz1 : (w.alloc (.map #[] 0)).heap.size = w.heap.size + 1 := by simp
  have HBc : Aside0 (((w.alloc (.map #[] 0)).alloc (.cells #[.map (some w.heap.size)] 63)).cell? ⟨w.heap.size + 1, 0, none⟩ = some (.map (some w.heap.size))) := ⟨by rw [← hsz1]; simp⟩
  have HS := Aside0.mk hs
  have HBm : Aside0 (w.heap.size + 1 ≠ w.heap.size) := ⟨by omega⟩
  have HLm : Aside0 (L ≠ w.heap.size) := ⟨by have := HLT.out; omega⟩
  have HH := Aside0.mk h
  have HNz : Aside0 (0 + 11602 ≤ 1000000) := ⟨by omega⟩
  clear hL hs h hb1 hT0 hsz1 hc
  go_enter Tryz.func14, Tryz.ntmps14
  go_wp2_with fail
  generalize hW0 : ((w.alloc (.map #[] 0)).alloc (.cells #[.map (some w.heap.size)] 63)) = W0 at HB1 HL1 HT1 HBc ⊢
  clear hW0 hmm
  refine (redo_eachT 11602 L d base sectors run all dur (w.heap.size + 1) w.heap.size 0 [] R c 1 w W0 HL1.out HS.out (by decide) HBc.out HBm.out HLm.out HT1.out GoodT.nil (by omega) HB1.out (Nat.le_refl _) HH.out).mono ?_
  rintro e w2 ⟨hE, ⟨n', hn', hT2⟩, hg, hb, hsz, hk⟩
  have hc2 : w2.cell? ⟨w.heap.size + 1, 0, none⟩ = some (.map (some w.heap.size)) := (World.cell?_of_block (w := W0) (a := ⟨w.heap.size + 1, 0, none⟩) (hk (w.heap.size + 1) (heap_of_cell HBc.out) HBm.out)).trans HBc.out
  have HT2 := Aside0.mk hT2; have HG2 := Aside0.mk hg; have HB2 := Aside0.mk hb
  have HN2 := Aside0.mk hn'
  clear hT2 hg hb hsz hk hn'
  rcases hE with ⟨rfl, rfl⟩ | ⟨rfl, b, rfl⟩
  · have HS := Aside0.mk (redo_sorted w.heap.size n' R w2 HT2.out HG2.out (by have := HN2.out; have := HNz.out; omega))
    go_wp2_with fail
    refine HS.out.mono ?_
    rintro e w3 ⟨A, cap, rfl, hcap, hC, hb⟩
    have HC := Aside0.mk hC; have HB3 := Aside0.mk (below_step HB2.out hb); have HCP := Aside0.mk hcap; clear hC hb hcap hc2 HS
    go_wp2_with fail
    go_ret2
    exact ⟨A, cap, rfl, HCP.out, HC.out, HB3.out⟩
  · clear hc2
    go_wp2_with fail
    go_ret2
    exact ⟨none, 0, rfl, Nat.le_refl _, ⟨rfl, Nat.zero_le _, fun h => absurd h (Nat.lt_irrefl _)⟩, HB2.out⟩
set_option maxHeartbeats 16000000 in
set_option maxRecDepth 100000 in
theorem redo_TableN (L d : Nat) (base sectors run : Int) (all : ByteArray) (dur chk : Int) (R : List S36) (c : Int) (w : World) (hL : IsLog w L d base sectors run all dur) (hs : all.size ≤ 11600) (hc1 : 1 ≤ chk) (hd : (all.size : Int) < chk ∨ ∃ r, chk ≤ all.size ∧ readF 5 all chk = some r ∧ ¬ (r.2.2.2.2.2.2.2.2.2.2.2.2.2.2 = 0 ∧ r.1 = 9)) :
    Calls Tryz.prog 14 #[.pointer (some ⟨L, 0, none⟩), .int .i64 chk] w fun e w' => e = .returned (.tuple #[.slice none 0 0, .int .i64 20]) ∧ Below w.heap.size w w' := by
  have hu32 := Tryz.underlying32
  have hmm := @run_makeMap Tryz.prog
  have b0 : decide (0 < chk) = true := decide_eq_true (by omega)
  have HLT := Aside0.mk (Array.getElem?_eq_some_iff.1 hL).1
  have hb1 := below_alloc (below_alloc (Below.refl w.heap.size w) (.map #[] 0)) (.cells #[.map (some w.heap.size)] 63)
  have HB1 := Aside0.mk hb1; have HL1 := Aside0.mk (IsLog.below hL hb1)
  have hT0 : TblAt (w.alloc (.map #[] 0)) w.heap.size 0 [] := World.ownsMap_made w Tryz.prog 3 _
  have HT1 := Aside0.mk (TblAt.kept hT0 (below_alloc (Below.refl _ _) (.cells #[.map (some w.heap.size)] 63)))
  have hsz1 : (w.alloc (.map #[] 0)).heap.size = w.heap.size + 1 := by simp
  have HBc : Aside0 (((w.alloc (.map #[] 0)).alloc (.cells #[.map (some w.heap.size)] 63)).cell? ⟨w.heap.size + 1, 0, none⟩ = some (.map (some w.heap.size))) := ⟨by rw [← hsz1]; simp⟩
  have HS := Aside0.mk hs
  have HBm : Aside0 (w.heap.size + 1 ≠ w.heap.size) := ⟨by omega⟩
  have HLm : Aside0 (L ≠ w.heap.size) := ⟨by have := HLT.out; omega⟩
  have HC1 := Aside0.mk hc1
  rcases hd with hd | ⟨r, hd, hr, hr0⟩
  · have HD := Aside0.mk hd
    clear hL hs hb1 hT0 hsz1 hc1 hd
    go_enter Tryz.func14, Tryz.ntmps14
    go_wp2_with fail
    generalize hW0 : ((w.alloc (.map #[] 0)).alloc (.cells #[.map (some w.heap.size)] 63)) = W0 at HB1 HL1 HT1 HBc ⊢
    clear hW0 hmm
    refine (log_Read_far L d base sectors run all dur chk W0 HL1.out HC1.out HD.out (by have := HS.out; omega)).mono ?_
    rintro e w2 ⟨rfl, hb⟩
    have HB2 := Aside0.mk (below_step HB1.out hb); clear hb
    go_wp2_with fail
    go_ret2
    exact ⟨rfl, below_alloc HB2.out _⟩
  · have HD := Aside0.mk hd
    obtain ⟨y1, y2, y3, y4, y5, y6, y7, y8, y9, y10, y11, y12, y13, y14, y15⟩ := r
    dsimp only at hr0
    have HR := Aside0.mk hr; have HR0 := Aside0.mk hr0; clear hL hs hb1 hT0 hsz1 hc1 hd hr hr0
    go_enter Tryz.func14, Tryz.ntmps14
    go_wp2_with fail
    generalize hW0 : ((w.alloc (.map #[] 0)).alloc (.cells #[.map (some w.heap.size)] 63)) = W0 at HB1 HL1 HT1 HBc ⊢
    clear hW0 hmm
    refine (log_Read 5 L d base sectors run all dur chk y1 y2 y3 y4 y5 y6 y7 y8 y9 y10 y11 y12 y13 y14 y15 W0 HL1.out HC1.out HD.out (by have := HS.out; omega) HR.out).mono ?_
    rintro e w2 ⟨v9, v10, rfl, q9, q10, hb⟩
    obtain ⟨A9, c9, rfl⟩ := Kd.R_slice q9
    obtain ⟨A10, c10, rfl⟩ := Kd.R_slice q10
    have HB2 := Aside0.mk (below_step HB1.out hb); clear hb q9 q10
    by_cases h15 : y15 = 0
    · subst h15
      have h9 : y1 ≠ 9 := fun e => HR0.out ⟨rfl, e⟩
      have b9 : (y1 == 9) = false := beq_eq_false_iff_ne.mpr h9
      have b9' : (y1 != 9) = true := bne_iff_ne.mpr h9
      clear h9
      go_wp2_with fail
      go_ret2
      exact ⟨rfl, below_alloc HB2.out _⟩
    · have b15 : (y15 == 0) = false := beq_eq_false_iff_ne.mpr h15
      have b15' : (y15 != 0) = true := bne_iff_ne.mpr h15
      clear h15
      go_wp2_with fail
      go_ret2
      exact ⟨rfl, below_alloc HB2.out _⟩
set_option maxHeartbeats 16000000 in
set_option maxRecDepth 100000 in
theorem redo_TableC (L d : Nat) (base sectors run : Int) (all : ByteArray) (dur chk : Int) (R : List S36) (c : Int) (w : World) (hL : IsLog w L d base sectors run all dur) (hs : all.size ≤ 11600) (hc1 : 1 ≤ chk) (hc2 : chk ≤ all.size) (y2 y3 y4 y5 : Int) (y6 y7 y8 : ByteArray) (y9 : Int) (y10 : List S144) (y11 : List S36) (y12 y13 y14 : Int) (hr : readF 5 all chk = some (9, y2, y3, y4, y5, y6, y7, y8, y9, y10, y11, y12, y13, y14, 0)) (h : eachT 11602 all (putTo y11 y11.length) y14 = some (R, c)) :
    Calls Tryz.prog 14 #[.pointer (some ⟨L, 0, none⟩), .int .i64 chk] w fun e w' => ∃ A cap, e = .returned (.tuple #[.slice A (endT (R, c)).1.length cap, .int .i64 (endT (R, c)).2]) ∧ (endT (R, c)).1.length ≤ cap ∧ Kd.C k36 w' A (endT (R, c)).1.length (endT (R, c)).1 ∧ Below w.heap.size w w' := by
  have hu32 := Tryz.underlying32
  have hmm := @run_makeMap Tryz.prog
  have b0 : decide (0 < chk) = true := decide_eq_true (by omega)
  have HLT := Aside0.mk (Array.getElem?_eq_some_iff.1 hL).1
  have hb1 := below_alloc (below_alloc (Below.refl w.heap.size w) (.map #[] 0)) (.cells #[.map (some w.heap.size)] 63)
  have HB1 := Aside0.mk hb1; have HL1 := Aside0.mk (IsLog.below hL hb1)
  have hT0 : TblAt (w.alloc (.map #[] 0)) w.heap.size 0 [] := World.ownsMap_made w Tryz.prog 3 _
  have HT1 := Aside0.mk (TblAt.kept hT0 (below_alloc (Below.refl _ _) (.cells #[.map (some w.heap.size)] 63)))
  have hsz1 : (w.alloc (.map #[] 0)).heap.size = w.heap.size + 1 := by simp
  have HBc : Aside0 (((w.alloc (.map #[] 0)).alloc (.cells #[.map (some w.heap.size)] 63)).cell? ⟨w.heap.size + 1, 0, none⟩ = some (.map (some w.heap.size))) := ⟨by rw [← hsz1]; simp⟩
  have HS := Aside0.mk hs
  have HBm : Aside0 (w.heap.size + 1 ≠ w.heap.size) := ⟨by omega⟩
  have HLm : Aside0 (L ≠ w.heap.size) := ⟨by have := HLT.out; omega⟩
  have HH := Aside0.mk h; have HR := Aside0.mk hr; have HC := Aside0.mk (And.intro hc1 hc2); have HTB := Aside0.mk (read_tab hr rfl rfl)
  have H14 : Aside0 (1 ≤ y14) := ⟨by obtain ⟨r', q1, q2⟩ := read_tot all chk hs hc1; rw [hr] at q1; injection q1 with q1; subst q1; have := (q2 rfl).1; dsimp only at this; omega⟩
  clear hL hs hb1 hT0 hsz1 hc1 hc2 h hr
  dsimp only at HTB
  go_enter Tryz.func14, Tryz.ntmps14
  go_wp2_with fail
  generalize hW0 : ((w.alloc (.map #[] 0)).alloc (.cells #[.map (some w.heap.size)] 63)) = W0 at HB1 HL1 HT1 HBc ⊢
  clear hW0 hmm
  refine (log_Read 5 L d base sectors run all dur chk 9 y2 y3 y4 y5 y6 y7 y8 y9 y10 y11 y12 y13 y14 0 W0 HL1.out HC.out.1 HC.out.2 (by have := HS.out; omega) HR.out).mono ?_
  rintro e w2 ⟨v9, v10, rfl, q9, q10, hb⟩
  obtain ⟨A9, c9, rfl⟩ := Kd.R_slice q9
  obtain ⟨A10, c10, rfl⟩ := Kd.R_slice q10
  have hb := below_alloc hb (.cells #[.int .i64 9, .int .i64 y2, .int .i64 y3, .int .i64 y4, .int .i64 y5, .string y6, .string y7, .string y8, .int .i64 y9, .slice A9 y10.length c9, .slice A10 y11.length c10, .int .i64 y12, .int .i64 y13] 32)
  have Q10 := Aside0.mk (Kd.C_below (Kd.R_reads' q10).2.2 (below_alloc (Below.refl _ _) (.cells #[.int .i64 9, .int .i64 y2, .int .i64 y3, .int .i64 y4, .int .i64 y5, .string y6, .string y7, .string y8, .int .i64 y9, .slice A9 y10.length c9, .slice A10 y11.length c10, .int .i64 y12, .int .i64 y13] 32)))
  have HB2 := Aside0.mk (below_step HB1.out hb); have HL2 := Aside0.mk (IsLog.below HL1.out hb); have HT2 := Aside0.mk (TblAt.kept HT1.out hb); have HBc2 := Aside0.mk (below_cell hb HBc.out); clear hb q9 q10 HB1 HL1 HT1 HBc
  go_wp2_with fail
  generalize hW1 : (w2.alloc (.cells #[.int .i64 9, .int .i64 y2, .int .i64 y3, .int .i64 y4, .int .i64 y5, .string y6, .string y7, .string y8, .int .i64 y9, .slice A9 y10.length c9, .slice A10 y11.length c10, .int .i64 y12, .int .i64 y13] 32)) = W1 at HB2 HL2 HT2 HBc2 Q10 ⊢
  clear hW1
  go_loopg [34] (y11.length) (fun kq v34 w' => ∃ (i : Int) (n1 : Nat), v34 = .int .i64 i ∧ Aside0 (0 ≤ i ∧ i.toNat + kq = y11.length) ∧ Aside0 (TblAt w' w.heap.size n1 (putTo y11 i.toNat)) ∧ Aside0 (n1 ≤ i.toNat) ∧ Aside0 (Below w.heap.size w w') ∧ Aside0 (W1.heap.size ≤ w'.heap.size ∧ ∀ i, i < W1.heap.size → i ≠ w.heap.size → w'.heap[i]? = W1.heap[i]?))
  case atStart => exact ⟨0, 0, rfl, ⟨by omega, by simp⟩, HT2, ⟨by omega⟩, HB2, ⟨Nat.le_refl _, fun i _ _ => rfl⟩⟩
  case round =>
    obtain ⟨i, n1, rfl, HN, HTr, HNn, HBr, HKr⟩ := hrel
    cases gk with
    | zero =>
      have bz : decide (i < (y11.length : Int)) = false := decide_eq_false (by have := HN.out; omega)
      have hn : i.toNat = y11.length := by have := HN.out; omega
      have HTr2 := HTr.out
      rw [hn] at HTr2
      have HTz := Aside0.mk HTr2; have HLz := Aside0.mk (show IsLog wr L d base sectors run all dur from (HKr.out.2 L (Nat.lt_of_lt_of_le HLT.out HB2.out.size) HLm.out).trans HL2.out); have HBcz := Aside0.mk (cell_off HT2.out HKr.out.2 HBc2.out); have HGz := Aside0.mk (GoodT.putTo y11 HTB.out.2 y11.length (Nat.le_refl _))
      have HNz : Aside0 (n1 + 11602 ≤ 1000000) := ⟨by have := HNn.out; have := HTB.out.1; omega⟩
      clear hn HTr2 HTr HT2 HL2 HBc2 HB2 HKr HN HNn Q10
      go_wp2_with fail
      generalize hW0 : wr = W0 at HTz HLz HBcz HBr ⊢
      clear hW0; have HBc := HBcz
      refine (redo_eachT 11602 L d base sectors run all dur (w.heap.size + 1) w.heap.size n1 (putTo y11 y11.length) R c y14 w W0 HLz.out HS.out H14.out HBcz.out HBm.out HLm.out HTz.out HGz.out HNz.out HBr.out (Nat.le_refl _) HH.out).mono ?_
      rintro e w2 ⟨hE, ⟨n', hn', hT2⟩, hg, hb, hsz, hk⟩
      have hc2 : w2.cell? ⟨w.heap.size + 1, 0, none⟩ = some (.map (some w.heap.size)) := (World.cell?_of_block (w := W0) (a := ⟨w.heap.size + 1, 0, none⟩) (hk (w.heap.size + 1) (heap_of_cell HBc.out) HBm.out)).trans HBc.out
      have HT2 := Aside0.mk hT2; have HG2 := Aside0.mk hg; have HB2 := Aside0.mk hb
      have HN2 := Aside0.mk hn'
      clear hT2 hg hb hsz hk hn'
      rcases hE with ⟨rfl, rfl⟩ | ⟨rfl, b, rfl⟩
      · have HS := Aside0.mk (redo_sorted w.heap.size n' R w2 HT2.out HG2.out (by have := HN2.out; have := HNz.out; omega))
        go_wp2_with fail
        refine HS.out.mono ?_
        rintro e w3 ⟨A, cap, rfl, hcap, hC, hb⟩
        have HC := Aside0.mk hC; have HB3 := Aside0.mk (below_step HB2.out hb); have HCP := Aside0.mk hcap; clear hC hb hcap hc2 HS
        go_wp2_with fail
        go_ret2
        exact ⟨A, cap, rfl, HCP.out, HC.out, HB3.out⟩
      · clear hc2
        go_wp2_with fail
        go_ret2
        exact ⟨none, 0, rfl, Nat.le_refl _, ⟨rfl, Nat.zero_le _, fun h => absurd h (Nat.lt_irrefl _)⟩, HB2.out⟩
    | succ k1 =>
      have hi : i < (y11.length : Int) := by have := HN.out; omega
      have h0 : 0 ≤ i := HN.out.1
      have bi : decide (i < (y11.length : Int)) = true := decide_eq_true hi
      have hw : wrap64 (i + 1) = i + 1 := w64 (by omega) (by have := HTB.out.1; omega)
      have hnx : (i + 1).toNat = i.toNat + 1 := by omega
      obtain ⟨ad, rfl, z0, z1⟩ := at_T36 Q10.out i h0 hi
      have ha := act_get HTB.out.2 h0 hi
      have hpt : putTo y11 (i.toNat + 1) = putS (putTo y11 i.toNat) (rd_T36 y11 i).f0 (rd_T36 y11 i).f1 := by
        show putS _ (rd_T36 y11 (i.toNat : Int)).f0 (rd_T36 y11 (i.toNat : Int)).f1 = _
        rw [Int.toNat_of_nonneg h0]
      have hgp := GoodT.putTo y11 HTB.out.2 i.toNat (by omega)
      generalize rd_T36 y11 i = yy at *
      obtain ⟨f0, f1⟩ := yy
      dsimp only at z0 z1 ha hpt
      have r0 := cell_off HT2.out HKr.out.2 z0; have r1 := cell_off HT2.out HKr.out.2 z1
      have hal := below_alloc (Below.refl wr.heap.size wr) (.cells #[.int .i64 f0, .int .i64 f1] 36)
      have hcb := below_cell hal (cell_off HT2.out HKr.out.2 HBc2.out)
      obtain ⟨W', hrun, hT2, hg⟩ := TblAt.put (TblAt.kept HTr.out hal) hgp.1 ha.1 (by have := ha.2.1; omega) ha.2.2.1 (by have := ha.2.2.2; omega) (by have := HNn.out; have := HTB.out.1; unfold maxLen; omega)
      rw [← hpt, ← hnx] at hT2
      have hsz : wr.heap.size ≤ (wr.alloc (.cells #[.int .i64 f0, .int .i64 f1] 36)).heap.size := hal.size
      have HT3 := Aside0.mk hT2
      have HB3 := Aside0.mk (below_grown (below_alloc HBr.out (.cells #[.int .i64 f0, .int .i64 f1] 36)) hg (Nat.le_refl _))
      have HK3 : Aside0 (W1.heap.size ≤ W'.heap.size ∧ ∀ i, i < W1.heap.size → i ≠ w.heap.size → W'.heap[i]? = W1.heap[i]?) := ⟨Nat.le_trans HKr.out.1 (Nat.le_trans hsz hg.size), fun j hj hne => (hg.block j (Nat.lt_of_lt_of_le hj (Nat.le_trans HKr.out.1 hsz)) (fun e => by injection e with e; omega)).trans ((hal.block j (Nat.lt_of_lt_of_le hj HKr.out.1)).trans (HKr.out.2 j hj hne))⟩
      clear hT2 hg hal hsz hgp hpt ha z0 z1 HTr HBr HKr HT2 HBc2 HL2 HB2
      go_wp2_with fail
      go_roundg k1
      case measure => omega
      case rel => exact ⟨i + 1, n1 + 1, by first | rfl | rw [hw], ⟨by omega, by have := HN.out; omega⟩, HT3, ⟨by have := HNn.out; omega⟩, HB3, HK3⟩
/-- THE CONTRACT of redo.Table. -/
theorem redo_Table (L d : Nat) (base sectors run : Int) (all : ByteArray) (dur chk : Int) (R : List S36) (c : Int) (w : World) (hL : IsLog w L d base sectors run all dur) (hs : all.size ≤ 11600) (h : tableF all chk = some (R, c)) :
    Calls Tryz.prog 14 #[.pointer (some ⟨L, 0, none⟩), .int .i64 chk] w fun e w' => ∃ A cap, e = .returned (.tuple #[.slice A R.length cap, .int .i64 c]) ∧ R.length ≤ cap ∧ Kd.C k36 w' A R.length R ∧ Below w.heap.size w w' := by
  unfold tableF at h
  by_cases h1 : chk < 1
  · rw [if_pos h1] at h
    obtain ⟨⟨R0, c0⟩, h2, h3⟩ := Option.map_eq_some_iff.mp h
    have := redo_Table0 L d base sectors run all dur chk R0 c0 w hL hs h1 h2
    rw [h3] at this
    exact this
  · rw [if_neg h1] at h
    by_cases h2 : (all.size : Int) < chk
    · rw [if_pos h2] at h
      simp only [Option.some.injEq, Prod.mk.injEq] at h
      obtain ⟨rfl, rfl⟩ := h
      refine (redo_TableN L d base sectors run all dur chk [] 20 w hL hs (by omega) (.inl h2)).mono ?_
      rintro e w' ⟨rfl, hb⟩
      exact ⟨none, 0, rfl, Nat.le_refl _, ⟨rfl, Nat.zero_le _, fun h => absurd h (Nat.lt_irrefl _)⟩, hb⟩
    · rw [if_neg h2] at h
      obtain ⟨r, hr, h⟩ := Option.bind_eq_some_iff.mp h
      by_cases h3 : r.2.2.2.2.2.2.2.2.2.2.2.2.2.2 = 0 ∧ r.1 = 9
      · rw [if_pos h3] at h
        obtain ⟨⟨R0, c0⟩, h4, h5⟩ := Option.map_eq_some_iff.mp h
        obtain ⟨y1, y2, y3, y4, y5, y6, y7, y8, y9, y10, y11, y12, y13, y14, y15⟩ := r
        dsimp only at h3 h4
        obtain ⟨rfl, rfl⟩ := h3
        have := redo_TableC L d base sectors run all dur chk R0 c0 w hL hs (by omega) (by omega) y2 y3 y4 y5 y6 y7 y8 y9 y10 y11 y12 y13 y14 hr h4
        rw [h5] at this
        exact this
      · rw [if_neg h3] at h
        simp only [Option.some.injEq, Prod.mk.injEq] at h
        obtain ⟨rfl, rfl⟩ := h
        refine (redo_TableN L d base sectors run all dur chk [] 20 w hL hs (by omega) (.inr ⟨r, by omega, hr, h3⟩)).mono ?_
        rintro e w' ⟨rfl, hb⟩
        exact ⟨none, 0, rfl, Nat.le_refl _, ⟨rfl, Nat.zero_le _, fun h => absurd h (Nat.lt_irrefl _)⟩, hb⟩
end Go.Proofs.YteoebfiacnploaaGreat.HRec
namespace Go.Proofs.YteoebfiacnploaaGreat.HRec
open Go.RowKit Go.Proofs.YteoebfiacnploaaGreatW.PrintWords Go.Proofs.YteoebfiacnploaaGreatW.PrintLast Go.Proofs.YteoebfiacnploaaGreatW.PrintMore
set_option linter.unusedVariables false
set_option linter.unusedSimpArgs false
theorem eachT_at {all : ByteArray} (hs : all.size ≤ 11600) {k : Nat} {l : List S36} {lsn : Int} {r : List S36 × Int} (h1 : 1 ≤ lsn) (h : eachT k all l lsn = some r) : eachT 11602 all l lsn = some r := by
  obtain ⟨q, hq⟩ := eachT_tot all hs 11601 11602 l lsn h1 (by omega) (by omega)
  rw [hq, eachT_one h hq]
end Go.Proofs.YteoebfiacnploaaGreat.HRec
