/- Texts of this proof, put together: SayP, SayQ, WalA, WalB. They prove no statement. -/
import Derived.Test.YteoebfiacnploaaGreatDoorQG13
import Derived.Test.YteoebfiacnploaaGreatDoorQG4
import Derived.Test.YteoebfiacnploaaGreatDoorQFtypes
import Derived.BigRegion
import Derived.Test.YteoebfiacnploaaGreatDoorQG6
import Derived.Test.YteoebfiacnploaaGreatDoorQHookRg
import Derived.Test.YteoebfiacnploaaGreatDoorQHookRh0
import Derived.Test.YteoebfiacnploaaGreatDoorQG12
namespace Go.Proofs.YteoebfiacnploaaGreatDoor.HRec
open Go.RowKit Go.Proofs.YteoebfiacnploaaGreatDoorW.PrintWords Go.Proofs.YteoebfiacnploaaGreatDoorW.PrintLast Go.Proofs.YteoebfiacnploaaGreatDoorW.PrintMore Go.Proofs.YteoebfiacnploaaGreatDoor.SayPure
set_option linter.unusedVariables false
set_option linter.unusedSimpArgs false
theorem info_i : (Tryz.prog.info? 3).map (fun i => (i.zero, i.size, i.bytes)) = some (some (.int .i64 0), 1, 8) := by kernel_rfl
theorem ints_op {ops : Array Oper} {rest : List Oper} {o : Oper} {a : Act} {Q : Exit → Act → World → Prop} {w0 W : World} (hgd : o.guard = none) (s x : Operand) (ho : o.op = .call { callee := .builtin .append, args := #[s, x], argTypes := #[25, 25] })
    (v : Value) (xs ys : List Int) (A : Option Addr) (m c : Nat) (hs : a.eval s = v) (hx : a.eval x = .slice A m c)
    (HO : Kd.R (Kd.int .i64) 3 W w0.heap.size (fun _ => True) v xs) (HR : Kd.C (Kd.int .i64) W A m ys) (HB : Below w0.heap.size w0 W) (hl : (xs.length + m) * 8 ≤ 140737488355328)
    (h : ∀ v1 w1, Kd.R (Kd.int .i64) 3 w1 w0.heap.size (fun _ => True) v1 (xs ++ ys) → Below w0.heap.size w0 w1 → wpList Tryz.prog ops Q rest (a.put o.dst v1) w1) :
    wpList Tryz.prog ops Q (o :: rest) a W :=
  Kd.R_append_rows (Kd.int .i64) (w0 := w0) w0.heap.size hgd s x 25 3 (.int .i64 0) 8 ho Tryz.underlying25 info_i rfl (by decide) (by omega) v xs ys A m c (fun _ => True) (fun _ => False) hs hx HO HR (fun _ _ h => h) (fun _ h => h.elim) (fun _ _ => trivial) HB (below_size HB) hl (fun v1 w1 h1 h2 _ _ => h v1 w1 h1 h2)
theorem int_new (W : World) (t : TypeId) (p : Int) : Kd.C (Kd.int .i64) (W.alloc (.cells #[.int .i64 p] t)) (some ⟨W.heap.size, 0, none⟩) 1 [p] := by
  refine ⟨rfl, by simp, fun _ => ⟨_, rfl, fun j q hj => ?_⟩⟩
  have hb := blk_new W (.cells #[.int .i64 p] t)
  match j, hj with
  | 0, hj =>
    obtain rfl : p = q := by simpa using hj
    refine ⟨[.int .i64 p], rfl, rfl, fun i u hu => ?_⟩
    match i, hu with
    | 0, hu => obtain rfl : Value.int .i64 p = u := by simpa using hu
               exact (blk_cell hb 0).trans rfl
set_option maxHeartbeats 16000000 in
set_option maxRecDepth 100000 in
theorem rec_Pages (x0 x1 x2 x3 x4 : Int) (k o n : ByteArray) (x8 : Int) (A9 : Option Addr) (c9 : Nat) (l9 : List S144) (A10 : Option Addr) (n10 c10 : Nat) (x11 x12 : Int) (w : World) (hr9 : Kd.C k144 w A9 l9.length l9) (hn9 : l9.length ≤ 300) (hk : x0 = 1 ∨ x0 = 2) :
    Calls Tryz.prog 37 #[.agg #[.int .i64 x0, .int .i64 x1, .int .i64 x2, .int .i64 x3, .int .i64 x4, .string k, .string o, .string n, .int .i64 x8, .slice A9 l9.length c9, .slice A10 n10 c10, .int .i64 x11, .int .i64 x12]] w fun e w' => ∃ v, e = .returned v ∧ Kd.R (Kd.int .i64) 3 w' w.heap.size (fun _ => True) v (l9.map S144.f0) ∧ Below w.heap.size w w' := by
  obtain ⟨W1, hW1⟩ : ∃ W1, W1 = w.alloc (.cells #[.int .i64 x0, .int .i64 x1, .int .i64 x2, .int .i64 x3, .int .i64 x4, .string k, .string o, .string n, .int .i64 x8, .slice A9 l9.length c9, .slice A10 n10 c10, .int .i64 x11, .int .i64 x12] 33) := ⟨_, rfl⟩
  have RR : Aside0 (IsRec W1 w.heap.size x0 x1 x2 x3 x4 k o n x8 (.slice A9 l9.length c9) (.slice A10 n10 c10) x11 x12) := ⟨by rw [hW1]; exact blk_new w _⟩
  have BB : Aside0 (Below w.heap.size w W1) := ⟨by rw [hW1]; exact below_alloc (Below.refl _ _) _⟩
  have Q9 := Aside0.mk (Kd.C_below hr9 BB.out); have HB := Aside0.mk (Below.refl W1.heap.size W1); have HN9 := Aside0.mk hn9; clear hr9 hn9
  go_enter Tryz.func37, Tryz.ntmps37
  go_upto_region 1 with fail
  rw [← hW1]
  clear hW1
  obtain ⟨z0, z1, z2, z3, z4, z5, z6, z7, z8, z9, z10, z11, z12, z13, z14, z15, z16, z17, z18, z19, z20, z21, z22, z23, z24, z25⟩ := IsRec.all13 RR.out
  rcases hk with rfl | rfl
  all_goals
    go_wp2_with fail
    clear z0 z1 z2 z3 z4 z5 z6 z7 z8 z9 z10 z11 z12 z13 z14 z15 z16 z17 z18 z19 z20 z21 z22 z23 z24 z25
    go_loopg [3, 14] (l9.length) (fun kq v3 v14 w' => ∃ (i : Int) (v : Value), v14 = .int .i64 i ∧ v = v3 ∧ Aside0 (0 ≤ i ∧ i.toNat + kq = l9.length) ∧ Aside0 (Kd.R (Kd.int .i64) 3 w' W1.heap.size (fun _ => True) v ((l9.take i.toNat).map S144.f0)) ∧ Aside0 (Below W1.heap.size W1 w'))
    case atStart => exact ⟨0, _, rfl, rfl, ⟨by omega, by simp⟩, ⟨Kd.R_nil _ _ _ _ _⟩, HB⟩
    case round =>
      clear HB
      obtain ⟨i, v, rfl, rfl, HN, HO, HB⟩ := hrel
      cases gk with
      | zero =>
        have b0 : decide (i < (l9.length : Int)) = false := decide_eq_false (by have := HN.out; omega)
        have HO : Aside0 (Kd.R (Kd.int .i64) 3 wr W1.heap.size (fun _ => True) v (l9.map S144.f0)) := ⟨by have h := HO.out; rw [List.take_of_length_le (by have := HN.out; omega)] at h; exact h⟩
        clear HN
        go_wp2_with fail
        go_ret
        exact ⟨_, rfl, Kd.R_lower HO.out (below_size BB.out), below_step BB.out HB.out⟩
      | succ k1 =>
        have hi : i < (l9.length : Int) := by have := HN.out; omega
        have h0 : 0 ≤ i := HN.out.1
        have b0 : decide (i < (l9.length : Int)) = true := decide_eq_true hi
        have hw : wrap64 (i + 1) = i + 1 := w64 (by omega) (by have := HN9.out; omega)
        have hnx : (i + 1).toNat = i.toNat + 1 := by omega
        obtain ⟨ad, rfl, x0_, x1_⟩ := at_T144 (Kd.C_below Q9.out HB.out) i h0 hi
        have HX : Aside0 ((l9.take (i + 1).toNat).map S144.f0 = (l9.take i.toNat).map S144.f0 ++ [(rd_T144 l9 i).f0]) := ⟨by
          have h : i.toNat < l9.length := by omega
          rw [hnx, List.take_add_one, List.map_append]
          unfold rd_T144
          rw [List.getD_eq_getElem?_getD, List.getElem?_eq_getElem h]
          rfl⟩
        have HL : Aside0 (((l9.take i.toNat).map S144.f0).length ≤ 300) := ⟨by rw [List.length_map, List.length_take]; have := HN9.out; omega⟩
        generalize (l9.take i.toNat).map S144.f0 = ps at HO HX HL
        generalize rd_T144 l9 i = pg at x0_ x1_ HX
        have HC := Aside0.mk (int_new (wr.alloc (.cells #[.int .i64 pg.f0, .string pg.f1] 53)) 3 pg.f0)
        rw [show (wr.alloc (.cells #[.int .i64 pg.f0, .string pg.f1] 53)).heap.size = wr.heap.size + 1 from by simp] at HC
        go_wp2_with ((with_reducible refine gate_builtin (b := .append) (xs := #[.tmp 18, .tmp 21]) rfl ?_); at_builtin; refine ints_op (w0 := W1) rfl (.tmp 18) (.tmp 21) rfl _ ps [pg.f0] _ 1 1 rfl rfl ?aO ?aR ?aB ?aL ?_; (case aO => exact Kd.R_alloc (Kd.R_alloc HO.out _) _); (case aR => exact HC.out); (case aB => exact below_alloc (below_alloc HB.out _) _); (case aL => have := HL.out; omega); intro v6 w5 ho hb; have HO5 := Aside0.mk ho; have HB5 := Aside0.mk hb; clear ho hb)
        go_roundg k1
        case measure => omega
        case rel => exact ⟨i + 1, _, by first | rfl | rw [hw], rfl, ⟨by omega, by have := HN.out; omega⟩, ⟨by rw [HX.out]; exact HO5.out⟩, HB5⟩
end Go.Proofs.YteoebfiacnploaaGreatDoor.HRec
namespace Go.Proofs.YteoebfiacnploaaGreatDoor.HRec
open Go.RowKit Go.Proofs.YteoebfiacnploaaGreatDoorW.PrintWords Go.Proofs.YteoebfiacnploaaGreatDoorW.PrintLast Go.Proofs.YteoebfiacnploaaGreatDoorW.PrintMore
set_option linter.unusedVariables false
set_option linter.unusedSimpArgs false
theorem rec_Clean_at (w0 : World) (x0 x1 x2 x3 x4 : Int) (k o n : ByteArray) (x8 : Int) (A9 : Option Addr) (c9 : Nat) (l9 : List S144) (A10 : Option Addr) (c10 : Nat) (l10 : List S36) (x11 x12 : Int) (w : World) (hr9 : Kd.C k144 w0 A9 l9.length l9) (hc9 : l9.length ≤ c9) (hr10 : Kd.C k36 w0 A10 l10.length l10) (hc10 : l10.length ≤ c10) :
    Calls Tryz.prog 34 #[.agg #[.int .i64 x0, .int .i64 x1, .int .i64 x2, .int .i64 x3, .int .i64 x4, .string k, .string o, .string n, .int .i64 x8, .slice A9 l9.length c9, .slice A10 l10.length c10, .int .i64 x11, .int .i64 x12]] w fun e w' => ∃ v, e = .returned v ∧ recV v w0 (cleanR x0 x1 x2 x3 x4 k o n x8 l9 l10 x11 x12) ∧ Below w.heap.size w w' := by
  have n9 : Kd.C k144 w0 none ([] : List S144).length [] := Kd.C_nil _ _
  have n10 : Kd.C k36 w0 none ([] : List S36).length [] := Kd.C_nil _ _
  have go : ∀ (u : Value) (y : RecT), recV u w0 y → cleanR x0 x1 x2 x3 x4 k o n x8 l9 l10 x11 x12 = y → Calls Tryz.prog 34 #[.agg #[.int .i64 x0, .int .i64 x1, .int .i64 x2, .int .i64 x3, .int .i64 x4, .string k, .string o, .string n, .int .i64 x8, .slice A9 l9.length c9, .slice A10 l10.length c10, .int .i64 x11, .int .i64 x12]] w (fun e w' => e = .returned u ∧ Below w.heap.size w w') → Calls Tryz.prog 34 #[.agg #[.int .i64 x0, .int .i64 x1, .int .i64 x2, .int .i64 x3, .int .i64 x4, .string k, .string o, .string n, .int .i64 x8, .slice A9 l9.length c9, .slice A10 l10.length c10, .int .i64 x11, .int .i64 x12]] w fun e w' => ∃ v, e = .returned v ∧ recV v w0 (cleanR x0 x1 x2 x3 x4 k o n x8 l9 l10 x11 x12) ∧ Below w.heap.size w w' := fun u y hu hy hc => hc.mono fun _ _ ⟨h1, h2⟩ => ⟨u, h1, by rw [hy]; exact hu, h2⟩
  rcases (show x0 = 1 ∨ x0 = 2 ∨ x0 = 3 ∨ x0 = 4 ∨ x0 = 5 ∨ x0 = 6 ∨ x0 = 7 ∨ x0 = 8 ∨ x0 = 9 ∨ x0 = 10 ∨ (x0 < 1 ∨ 10 < x0) by omega) with rfl | rfl | rfl | rfl | rfl | rfl | rfl | rfl | rfl | rfl | hk
  · exact go _ _ (recV_mk w0 _ _ _ _ _ _ _ _ _ _ _ _ _ _ _ _ _ hr9 hc9 n10 (Nat.zero_le 0)) rfl (clean_1 x1 x2 x3 x4 k o n x8 A9 c9 l9 A10 c10 l10 x11 x12 w)
  · exact go _ _ (recV_mk w0 _ _ _ _ _ _ _ _ _ _ _ _ _ _ _ _ _ hr9 hc9 n10 (Nat.zero_le 0)) rfl (clean_2 x1 x2 x3 x4 k o n x8 A9 c9 l9 A10 c10 l10 x11 x12 w)
  · exact go _ _ (recV_mk w0 _ _ _ _ _ _ _ _ _ _ _ _ _ _ _ _ _ n9 (Nat.zero_le 0) n10 (Nat.zero_le 0)) rfl (clean_3 x1 x2 x3 x4 k o n x8 A9 c9 l9 A10 c10 l10 x11 x12 w)
  · exact go _ _ (recV_mk w0 _ _ _ _ _ _ _ _ _ _ _ _ _ _ _ _ _ n9 (Nat.zero_le 0) n10 (Nat.zero_le 0)) rfl (clean_4 x1 x2 x3 x4 k o n x8 A9 c9 l9 A10 c10 l10 x11 x12 w)
  · exact go _ _ (recV_mk w0 _ _ _ _ _ _ _ _ _ _ _ _ _ _ _ _ _ n9 (Nat.zero_le 0) n10 (Nat.zero_le 0)) rfl (clean_5 x1 x2 x3 x4 k o n x8 A9 c9 l9 A10 c10 l10 x11 x12 w)
  · exact go _ _ (recV_mk w0 _ _ _ _ _ _ _ _ _ _ _ _ _ _ _ _ _ n9 (Nat.zero_le 0) n10 (Nat.zero_le 0)) rfl (clean_6 x1 x2 x3 x4 k o n x8 A9 c9 l9 A10 c10 l10 x11 x12 w)
  · exact go _ _ (recV_mk w0 _ _ _ _ _ _ _ _ _ _ _ _ _ _ _ _ _ n9 (Nat.zero_le 0) n10 (Nat.zero_le 0)) rfl (clean_7 x1 x2 x3 x4 k o n x8 A9 c9 l9 A10 c10 l10 x11 x12 w)
  · exact go _ _ (recV_mk w0 _ _ _ _ _ _ _ _ _ _ _ _ _ _ _ _ _ n9 (Nat.zero_le 0) n10 (Nat.zero_le 0)) rfl (clean_8 x1 x2 x3 x4 k o n x8 A9 c9 l9 A10 c10 l10 x11 x12 w)
  · exact go _ _ (recV_mk w0 _ _ _ _ _ _ _ _ _ _ _ _ _ _ _ _ _ n9 (Nat.zero_le 0) hr10 hc10) rfl (clean_9 x1 x2 x3 x4 k o n x8 A9 c9 l9 A10 c10 l10 x11 x12 w)
  · exact go _ _ (recV_mk w0 _ _ _ _ _ _ _ _ _ _ _ _ _ _ _ _ _ n9 (Nat.zero_le 0) n10 (Nat.zero_le 0)) rfl (clean_10 x1 x2 x3 x4 k o n x8 A9 c9 l9 A10 c10 l10 x11 x12 w)
  · exact go _ _ (recV_mk w0 _ _ _ _ _ _ _ _ _ _ _ _ _ _ _ _ _ n9 (Nat.zero_le 0) n10 (Nat.zero_le 0)) (by unfold cleanR; rw [if_neg (by omega), if_neg (by omega), if_neg (by omega), if_neg (by omega), if_neg (by omega), if_neg (by omega)]) (clean_0 x0 x1 x2 x3 x4 k o n x8 A9 c9 l9 A10 c10 l10 x11 x12 w hk)
end Go.Proofs.YteoebfiacnploaaGreatDoor.HRec
namespace Go.Proofs.YteoebfiacnploaaGreatDoor.HRec
open Go.RowKit Go.Proofs.YteoebfiacnploaaGreatDoorW.PrintWords Go.Proofs.YteoebfiacnploaaGreatDoorW.PrintLast Go.Proofs.YteoebfiacnploaaGreatDoorW.PrintMore
set_option linter.unusedVariables false
set_option linter.unusedSimpArgs false
/-- A log at block L: its disk, where it begins, how many sectors, its run, its bytes, how many last; it is not dead. -/
def IsLog (W : World) (L d : Nat) (base sectors run : Int) (all : ByteArray) (dur : Int) : Prop :=
  W.heap[L]? = some (.cells #[.pointer (some ⟨d, 0, none⟩), .int .i64 base, .int .i64 sectors, .int .i64 run, .string all, .int .i64 dur, .bool false] 47 (0, 0))
section
variable {W W1 : World} {L d : Nat} {base sectors run : Int} {all : ByteArray} {dur : Int}
theorem IsLog.below (h : IsLog W L d base sectors run all dur) (hb : Below W.heap.size W W1) : IsLog W1 L d base sectors run all dur := blk_below h hb
theorem IsLog.at_0 (h : IsLog W L d base sectors run all dur) : W.cell? ⟨L, 0, none⟩ = some (.pointer (some ⟨d, 0, none⟩)) := (blk_cell h 0).trans rfl
theorem IsLog.at_2 (h : IsLog W L d base sectors run all dur) : W.cell? ⟨L, 2, none⟩ = some (.int .i64 sectors) := (blk_cell h 2).trans rfl
theorem IsLog.at_4 (h : IsLog W L d base sectors run all dur) : W.cell? ⟨L, 4, none⟩ = some (.string all) := (blk_cell h 4).trans rfl
theorem IsLog.at_6 (h : IsLog W L d base sectors run all dur) : W.cell? ⟨L, 6, none⟩ = some (.bool false) := (blk_cell h 6).trans rfl
theorem IsLog.free (h : IsLog W L d base sectors run all dur) (i : Nat) : W.frozen? ⟨L, i, none⟩ = false := blk_frozen h i
theorem IsLog.set_4 (h : IsLog W L d base sectors run all dur) (s : ByteArray) : IsLog (W.setCell ⟨L, 4, none⟩ (.string s)) L d base sectors run s dur := by unfold IsLog; simpa using blk_set h 4 (.string s)
end
set_option maxHeartbeats 4000000 in
theorem log_none (L d : Nat) (base sectors run : Int) (all : ByteArray) (dur : Int) (w : World) (h : IsLog w L d base sectors run all dur) :
    Calls Tryz.prog 13 #[.pointer (some ⟨L, 0, none⟩)] w fun e w' => e = .returned (.bool false) ∧ w' = w := by
  have c0 := IsLog.at_0 h
  go_enter Tryz.func13, Tryz.ntmps13
  go_wp2_with fail
  go_ret
  exact ⟨rfl, rfl⟩
set_option maxHeartbeats 4000000 in
theorem log_off (L d : Nat) (base sectors run : Int) (all : ByteArray) (dur : Int) (w : World) (h : IsLog w L d base sectors run all dur) :
    Calls Tryz.prog 27 #[.pointer (some ⟨L, 0, none⟩)] w fun e w' => e = .returned (.int .i64 0) ∧ w' = w := by
  have c6 := IsLog.at_6 h; have H := Aside0.mk h
  go_enter Tryz.func27, Tryz.ntmps27
  go_wp2_with fail
  refine (log_none L d base sectors run all dur w H.out).mono ?_
  rintro e w1 ⟨rfl, rfl⟩
  go_wp2_with fail
  go_ret
  exact ⟨rfl, rfl⟩
set_option maxHeartbeats 4000000 in
theorem log_End (L d : Nat) (base sectors run : Int) (all : ByteArray) (dur : Int) (w : World) (h : IsLog w L d base sectors run all dur) (hs : all.size ≤ 1000000) :
    Calls Tryz.prog 56 #[.pointer (some ⟨L, 0, none⟩)] w fun e w' => e = .returned (.int .i64 ((all.size : Int) + 1)) ∧ w' = w := by
  have c4 := IsLog.at_4 h; have H := Aside0.mk h
  have hw : wrap64 ((all.size : Int) + 1) = (all.size : Int) + 1 := by unfold wrap64; omega
  go_enter Tryz.func56, Tryz.ntmps56
  go_wp2_with fail
  refine (log_none L d base sectors run all dur w H.out).mono ?_
  rintro e w1 ⟨rfl, rfl⟩
  go_wp2_with fail
  go_ret
  exact ⟨rfl, rfl⟩
set_option maxHeartbeats 4000000 in
theorem log_Left (L d : Nat) (base run : Int) (all : ByteArray) (dur : Int) (w : World) (h : IsLog w L d base 200 run all dur) (hs : all.size ≤ 1000000) :
    Calls Tryz.prog 55 #[.pointer (some ⟨L, 0, none⟩)] w fun e w' => e = .returned (.int .i64 (11600 - (all.size : Int))) ∧ w' = w.drew := by
  have c4 := IsLog.at_4 h; have c2 := IsLog.at_2 h; have H := Aside0.mk h
  have hw : wrap64 (11600 - (all.size : Int)) = 11600 - (all.size : Int) := by unfold wrap64; omega
  go_enter Tryz.func55, Tryz.ntmps55
  go_wp2_with fail
  refine (log_none L d base 200 run all dur w H.out).mono ?_
  rintro e w1 ⟨rfl, rfl⟩
  go_wp2_with fail
  go_region
  go_wp2_with fail
  go_ret
  exact ⟨by first | rfl | simp [hw], rfl⟩
/-- What is put behind a log's bytes, if it has room. -/
def addF (all s : ByteArray) : ByteArray × Int × Int := if (s.size : Int) > 11600 - (all.size : Int) then (all, 0, 7) else (all ++ s, (all.size : Int) + 1, 0)
set_option maxHeartbeats 4000000 in
theorem log_add (L d : Nat) (base run : Int) (all s : ByteArray) (dur : Int) (w0 w : World) (h : IsLog w L d base 200 run all dur) (hs : all.size ≤ 11600) (hB : Below w0.heap.size w0 w) (hL : w0.heap.size ≤ L) :
    Calls Tryz.prog 29 #[.pointer (some ⟨L, 0, none⟩), .string s] w fun e w' => e = .returned (.tuple #[.int .i64 (addF all s).2.1, .int .i64 (addF all s).2.2]) ∧ IsLog w' L d base 200 run (addF all s).1 dur ∧ Below w0.heap.size w0 w' ∧ KeepBut w w' L none := by
  have H := Aside0.mk h; have HB := Aside0.mk hB; have HK := Aside0.mk (KeepBut.refl w L none); clear hB
  by_cases hz : (s.size : Int) > 11600 - (all.size : Int)
  · have e1 : addF all s = (all, 0, 7) := if_pos hz
    rw [e1]
    have b0 : decide (11600 - (all.size : Int) < (s.size : Int)) = true := decide_eq_true (by omega)
    go_enter Tryz.func29, Tryz.ntmps29
    go_wp2_with fail
    refine (log_Left L d base run all dur w H.out (by omega)).mono ?_
    rintro e w1 ⟨rfl, rfl⟩
    go_wp2_with fail
    go_ret2
    exact ⟨rfl, H.out, below_drew HB.out, keep_drew HK.out⟩
  · have e1 : addF all s = (all ++ s, (all.size : Int) + 1, 0) := if_neg hz
    rw [e1]
    have b0 : decide (11600 - (all.size : Int) < (s.size : Int)) = false := decide_eq_false (by omega)
    go_enter Tryz.func29, Tryz.ntmps29
    go_wp2_with fail
    refine (log_Left L d base run all dur w H.out (by omega)).mono ?_
    rintro e w1 ⟨rfl, rfl⟩
    go_wp2_with fail
    refine (log_End L d base 200 run all dur w.drew H.out (by omega)).mono ?_
    rintro e w1 ⟨rfl, rfl⟩
    have c4 : w.drew.cell? ⟨L, 4, none⟩ = some (.string all) := IsLog.at_4 H.out
    have f4 : w.drew.frozen? ⟨L, 4, none⟩ = false := IsLog.free H.out 4
    have hb1 : all.size + s.size ≤ 9223372036854775807 := by omega
    go_wp2_with fail
    go_ret2
    exact ⟨rfl, IsLog.set_4 (W := w.drew) H.out _, below_set (below_drew HB.out) hL, KeepBut.set_ (keep_drew HK.out) _ _⟩
end Go.Proofs.YteoebfiacnploaaGreatDoor.HRec
namespace Go.Proofs.YteoebfiacnploaaGreatDoor.HRec
open Go.RowKit Go.Proofs.YteoebfiacnploaaGreatDoorW.PrintWords Go.Proofs.YteoebfiacnploaaGreatDoorW.PrintLast Go.Proofs.YteoebfiacnploaaGreatDoorW.PrintMore
set_option linter.unusedVariables false
set_option linter.unusedSimpArgs false
/-- The record at a place of a log whose bytes are these: the record's fields, the place behind it, the error. -/
def readF (k : Nat) (all : ByteArray) (lsn : Int) : Option (Int × Int × Int × Int × Int × ByteArray × ByteArray × ByteArray × Int × List S144 × List S36 × Int × Int × Int × Int) :=
  (rec_Open.f k all (lsn - 1)).bind fun r => if r.2.2.2.2.2.2.2.2.2.2.2.2.2.2 = 0 then some (r.1, r.2.1, r.2.2.1, r.2.2.2.1, r.2.2.2.2.1, r.2.2.2.2.2.1, r.2.2.2.2.2.2.1, r.2.2.2.2.2.2.2.1, r.2.2.2.2.2.2.2.2.1, r.2.2.2.2.2.2.2.2.2.1, r.2.2.2.2.2.2.2.2.2.2.1, r.2.2.2.2.2.2.2.2.2.2.2.1, r.2.2.2.2.2.2.2.2.2.2.2.2.1, wrap64 (lsn + r.2.2.2.2.2.2.2.2.2.2.2.2.2.1), 0)
    else some (0, 0, 0, 0, 0, ⟨#[]⟩, ⟨#[]⟩, ⟨#[]⟩, 0, [], [], 0, 0, 0, r.2.2.2.2.2.2.2.2.2.2.2.2.2.2)
set_option maxHeartbeats 8000000 in
set_option maxRecDepth 100000 in
theorem log_Read (k : Nat) (L d : Nat) (base sectors run : Int) (all : ByteArray) (dur lsn : Int) (r1 r2 r3 r4 r5 : Int) (r6 r7 r8 : ByteArray) (r9 : Int) (r10 : List S144) (r11 : List S36) (r12 r13 r14 r15 : Int) (w : World) (hL : IsLog w L d base sectors run all dur) (h1 : 1 ≤ lsn) (h2 : lsn ≤ all.size) (hs : all.size ≤ 1000000)
    (h : readF k all lsn = some (r1, r2, r3, r4, r5, r6, r7, r8, r9, r10, r11, r12, r13, r14, r15)) :
    Calls Tryz.prog 14 #[.pointer (some ⟨L, 0, none⟩), .int .i64 lsn] w fun e w' => ∃ v9_ v10_ : Value, e = .returned (.tuple #[.agg #[.int .i64 r1, .int .i64 r2, .int .i64 r3, .int .i64 r4, .int .i64 r5, .string r6, .string r7, .string r8, .int .i64 r9, v9_, v10_, .int .i64 r12, .int .i64 r13], .int .i64 r14, .int .i64 r15]) ∧ Kd.R k144 53 w' w.heap.size (fun _ => True) v9_ r10 ∧ Kd.R k36 55 w' w.heap.size (fun _ => True) v10_ r11 ∧ Below w.heap.size w w' := by
  have hu32 := Tryz.underlying33; have LL := Aside0.mk hL
  have b0 : decide (lsn < 1) = false := decide_eq_false (by omega)
  have b1 : decide ((all.size : Int) < lsn) = false := decide_eq_false (by omega)
  have hw : wrap64 (lsn - 1) = lsn - 1 := by unfold wrap64; omega
  unfold readF at h
  replace h := Option.bind_eq_some_iff.mp h
  obtain ⟨⟨y1, y2, y3, y4, y5, y6, y7, y8, y9, y10, y11, y12, y13, y14, y15⟩, ho, h⟩ := h
  have HO := Aside0.mk ho; have HH := Aside0.mk h; clear ho h hL
  have Z0 := Aside0.mk (show IsRec (w.alloc (.cells #[.int .i64 0, .int .i64 0, .int .i64 0, .int .i64 0, .int .i64 0, .string ⟨#[]⟩, .string ⟨#[]⟩, .string ⟨#[]⟩, .int .i64 0, .slice none 0 0, .slice none 0 0, .int .i64 0, .int .i64 0] 33)) w.heap.size 0 0 0 0 0 ⟨#[]⟩ ⟨#[]⟩ ⟨#[]⟩ 0 (.slice none 0 0) (.slice none 0 0) 0 0 from blk_new w _)
  have B0 := Aside0.mk (below_alloc (Below.refl w.heap.size w) (.cells #[.int .i64 0, .int .i64 0, .int .i64 0, .int .i64 0, .int .i64 0, .string ⟨#[]⟩, .string ⟨#[]⟩, .string ⟨#[]⟩, .int .i64 0, .slice none 0 0, .slice none 0 0, .int .i64 0, .int .i64 0] 33))
  go_enter Tryz.func14, Tryz.ntmps14
  go_wp2_with fail
  have L1 := Aside0.mk (IsLog.below LL.out (below_alloc (Below.refl _ _) (.cells #[.int .i64 0, .int .i64 0, .int .i64 0, .int .i64 0, .int .i64 0, .string ⟨#[]⟩, .string ⟨#[]⟩, .string ⟨#[]⟩, .int .i64 0, .slice none 0 0, .slice none 0 0, .int .i64 0, .int .i64 0] 33)))
  refine (log_none L d base sectors run all dur _ L1.out).mono ?_
  rintro e w1 ⟨rfl, rfl⟩
  have c4 := IsLog.at_4 L1.out
  go_wp2_with fail
  refine (rec_Open.calls k all (lsn - 1) y1 y2 y3 y4 y5 y6 y7 y8 y9 y10 y11 y12 y13 y14 y15 _ HO.out).mono ?_
  rintro e w2 ⟨v9, v10, rfl, q9, q10, q⟩
  obtain ⟨A9, c9, rfl⟩ := Kd.R_slice q9
  obtain ⟨A10, c10, rfl⟩ := Kd.R_slice q10
  have hsz : (w.alloc (.cells #[.int .i64 0, .int .i64 0, .int .i64 0, .int .i64 0, .int .i64 0, .string ⟨#[]⟩, .string ⟨#[]⟩, .string ⟨#[]⟩, .int .i64 0, (.slice none 0 0), (.slice none 0 0), .int .i64 0, .int .i64 0] 33)).heap.size = w.heap.size + 1 := by simp
  rw [hsz] at q9 q10
  have N2 := Aside0.mk (show Rows2 w2 (w.heap.size + 1) w2.heap.size (.slice A9 y10.length c9) y10 (.slice A10 y11.length c10) y11 from ⟨Kd.R_mono (Kd.R_bound q9) (fun k hz => ⟨hz.2.1, hz.2.2.1⟩), Kd.R_mono (Kd.R_bound q10) (fun k hz => ⟨hz.2.1, hz.2.2.1⟩), Nat.le_refl _⟩)
  have B3 := Aside0.mk (below_alloc (below_step B0.out q) (.cells #[.int .i64 y1, .int .i64 y2, .int .i64 y3, .int .i64 y4, .int .i64 y5, .string y6, .string y7, .string y8, .int .i64 y9, (.slice A9 y10.length c9), (.slice A10 y11.length c10), .int .i64 y12, .int .i64 y13] 33))
  have Z3 := Aside0.mk (IsRec.below (IsRec.below Z0.out q) (below_alloc (Below.refl _ _) (.cells #[.int .i64 y1, .int .i64 y2, .int .i64 y3, .int .i64 y4, .int .i64 y5, .string y6, .string y7, .string y8, .int .i64 y9, (.slice A9 y10.length c9), (.slice A10 y11.length c10), .int .i64 y12, .int .i64 y13] 33)))
  have N3 := Aside0.mk (Rows2.below N2.out (below_alloc (Below.refl _ _) (.cells #[.int .i64 y1, .int .i64 y2, .int .i64 y3, .int .i64 y4, .int .i64 y5, .string y6, .string y7, .string y8, .int .i64 y9, (.slice A9 y10.length c9), (.slice A10 y11.length c10), .int .i64 y12, .int .i64 y13] 33)))
  have O3 := Aside0.mk (show IsRec (w2.alloc (.cells #[.int .i64 y1, .int .i64 y2, .int .i64 y3, .int .i64 y4, .int .i64 y5, .string y6, .string y7, .string y8, .int .i64 y9, (.slice A9 y10.length c9), (.slice A10 y11.length c10), .int .i64 y12, .int .i64 y13] 33)) w2.heap.size y1 y2 y3 y4 y5 y6 y7 y8 y9 (.slice A9 y10.length c9) (.slice A10 y11.length c10) y12 y13 from blk_new w2 _)
  clear q9 q10 q hsz Z0 B0 L1 c4; have hh := HH.out
  by_cases he : y15 = 0
  · subst he
    rw [if_pos rfl] at hh
    simp only [Option.some.injEq, Prod.mk.injEq] at hh
    obtain ⟨rfl, rfl, rfl, rfl, rfl, rfl, rfl, rfl, rfl, rfl, rfl, rfl, rfl, rfl, rfl⟩ := hh
    obtain ⟨zZ3_0, zZ3_1, zZ3_2, zZ3_3, zZ3_4, zZ3_5, zZ3_6, zZ3_7, zZ3_8, zZ3_9, zZ3_10, zZ3_11, zZ3_12⟩ := IsRec.ats Z3.out; obtain ⟨yZ3_0, yZ3_1, yZ3_2, yZ3_3, yZ3_4, yZ3_5, yZ3_6, yZ3_7, yZ3_8, yZ3_9, yZ3_10, yZ3_11, yZ3_12⟩ := IsRec.frees Z3.out; obtain ⟨zO3_0, zO3_1, zO3_2, zO3_3, zO3_4, zO3_5, zO3_6, zO3_7, zO3_8, zO3_9, zO3_10, zO3_11, zO3_12⟩ := IsRec.ats O3.out; obtain ⟨yO3_0, yO3_1, yO3_2, yO3_3, yO3_4, yO3_5, yO3_6, yO3_7, yO3_8, yO3_9, yO3_10, yO3_11, yO3_12⟩ := IsRec.frees O3.out
    go_wp2_with fail
    have ZZ := (IsRec.sets13 Z3.out y1 y2 y3 y4 y5 y6 y7 y8 y9 (.slice A9 y10.length c9) (.slice A10 y11.length c10) y12 y13)
    have QQ := Rows2.done (b := w.heap.size) (Rows2.sets13 N3.out (show w.heap.size < w.heap.size + 1 by omega) (.int .i64 y1) (.int .i64 y2) (.int .i64 y3) (.int .i64 y4) (.int .i64 y5) (.string y6) (.string y7) (.string y8) (.int .i64 y9) (.slice A9 y10.length c9) (.slice A10 y11.length c10) (.int .i64 y12) (.int .i64 y13)) (show w.heap.size ≤ w.heap.size + 1 by omega)
    (try simp only [Exit.inBlock, Exit.then])
    refine bodyPost_ret (results_ctt rfl _ _ w.heap.size 33 #[.int .i64 y1, .int .i64 y2, .int .i64 y3, .int .i64 y4, .int .i64 y5, .string y6, .string y7, .string y8, .int .i64 y9, (.slice A9 y10.length c9), (.slice A10 y11.length c10), .int .i64 y12, .int .i64 y13] (0, 0) _ rfl ZZ hu32 rfl (by kernel_rfl)) rfl ?_
    exact ⟨_, _, rfl, QQ.1, QQ.2, (below13 B3.out (Nat.le_refl _))⟩
  · rw [if_neg he] at hh
    simp only [Option.some.injEq, Prod.mk.injEq] at hh
    obtain ⟨rfl, rfl, rfl, rfl, rfl, rfl, rfl, rfl, rfl, rfl, rfl, rfl, rfl, rfl, rfl⟩ := hh
    have u0 : (y15 == 0) = false := beq_eq_false_iff_ne.mpr he
    have u1 : (y15 != 0) = true := bne_iff_ne.mpr he
    obtain ⟨zZ3_0, zZ3_1, zZ3_2, zZ3_3, zZ3_4, zZ3_5, zZ3_6, zZ3_7, zZ3_8, zZ3_9, zZ3_10, zZ3_11, zZ3_12⟩ := IsRec.ats Z3.out; obtain ⟨yZ3_0, yZ3_1, yZ3_2, yZ3_3, yZ3_4, yZ3_5, yZ3_6, yZ3_7, yZ3_8, yZ3_9, yZ3_10, yZ3_11, yZ3_12⟩ := IsRec.frees Z3.out
    go_wp2_with fail
    have ZZ := (IsRec.sets13 Z3.out 0 0 0 0 0 ⟨#[]⟩ ⟨#[]⟩ ⟨#[]⟩ 0 (.slice none 0 0) (.slice none 0 0) 0 0)
    (try simp only [Exit.inBlock, Exit.then])
    refine bodyPost_ret (results_ctt rfl _ _ w.heap.size 33 #[.int .i64 0, .int .i64 0, .int .i64 0, .int .i64 0, .int .i64 0, .string ⟨#[]⟩, .string ⟨#[]⟩, .string ⟨#[]⟩, .int .i64 0, (.slice none 0 0), (.slice none 0 0), .int .i64 0, .int .i64 0] (0, 0) _ rfl ZZ hu32 rfl (by kernel_rfl)) rfl ?_
    exact ⟨_, _, rfl, Kd.R_nil _ _ _ _ _, Kd.R_nil _ _ _ _ _, (below13 B3.out (Nat.le_refl _))⟩
end Go.Proofs.YteoebfiacnploaaGreatDoor.HRec
