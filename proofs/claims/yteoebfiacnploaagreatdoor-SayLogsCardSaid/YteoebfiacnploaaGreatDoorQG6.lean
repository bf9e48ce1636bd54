/- Texts of this proof, put together: SayT, HookRi, Fpacklimit. They prove no statement. -/
import Derived.Test.YteoebfiacnploaaGreatDoorQG5
import Derived.Test.YteoebfiacnploaaGreatDoorQG4
import Derived.Test.YteoebfiacnploaaGreatDoorQG3
import Derived.Test.YteoebfiacnploaaGreatDoorQFtypes
namespace Go.Proofs.YteoebfiacnploaaGreatDoor.HRec
open Go.RowKit Go.Proofs.YteoebfiacnploaaGreatDoorW.PrintWords Go.Proofs.YteoebfiacnploaaGreatDoorW.PrintLast Go.Proofs.YteoebfiacnploaaGreatDoorW.PrintMore Go.Proofs.YteoebfiacnploaaGreatDoor.SayPure
set_option linter.unusedVariables false
set_option linter.unusedSimpArgs false
theorem ref_word (s : ByteArray) (w : World) (hs : s.size ≤ 1000000) : Calls Tryz.prog 32 #[.string s] w fun e w' => e = .returned (.string (mkW s)) ∧ Below w.heap.size w w' := (Hook.gharryref25_Word.calls s _ w (if_pos hs)).mono (fun _ _ h => ⟨h.1, h.2.below⟩)
/-- What a record turns, as a text. -/
def turnA (p : Int) (k : ByteArray) : ByteArray := (((⟨#[32, 112, 97, 103, 101, 32]⟩ : ByteArray) ++ lowB p) ++ ⟨#[32]⟩) ++ mkW k
def turnO (o : ByteArray) (act : Int) (a : ByteArray) : ByteArray := if act = 3 then a else (a ++ ⟨#[32, 111, 108, 100, 32]⟩) ++ mkW o
def turnN (n : ByteArray) (act : Int) (a : ByteArray) : ByteArray := if act = 4 then a else (a ++ ⟨#[32, 110, 101, 119, 32]⟩) ++ mkW n
def turnB (p : Int) (k o n : ByteArray) (act : Int) : ByteArray := turnN n act (turnO o act (turnA p k))
theorem app_size (a b : ByteArray) : (a ++ b).size = a.size + b.size := ByteArray.size_append
theorem turnA_size (p : Int) (k : ByteArray) (hk : k.size ≤ 1000000) : (turnA p k).size ≤ 3000100 := by
  have h1 := lowB_size p; have h2 := mkW_size k
  unfold turnA
  rw [app_size, app_size, app_size]
  have h3 : (⟨#[32, 112, 97, 103, 101, 32]⟩ : ByteArray).size = 6 := rfl
  have h4 : (⟨#[32]⟩ : ByteArray).size = 1 := rfl
  omega
theorem turnO_size (o : ByteArray) (act : Int) (a : ByteArray) (m : Nat) (ho : o.size ≤ 1000000) (ha : a.size ≤ m) : (turnO o act a).size ≤ m + 3000100 := by
  have h2 := mkW_size o
  unfold turnO
  split
  · omega
  · rw [app_size, app_size]
    have h3 : (⟨#[32, 111, 108, 100, 32]⟩ : ByteArray).size = 5 := rfl
    omega
theorem turnN_size (n : ByteArray) (act : Int) (a : ByteArray) (m : Nat) (hn : n.size ≤ 1000000) (ha : a.size ≤ m) : (turnN n act a).size ≤ m + 3000100 := by
  have h2 := mkW_size n
  unfold turnN
  split
  · omega
  · rw [app_size, app_size]
    have h3 : (⟨#[32, 110, 101, 119, 32]⟩ : ByteArray).size = 5 := rfl
    omega
theorem turnB_size (p : Int) (k o n : ByteArray) (act : Int) (hk : k.size ≤ 1000000) (ho : o.size ≤ 1000000) (hn : n.size ≤ 1000000) : (turnB p k o n act).size ≤ 9000300 := turnN_size n act _ 6000200 hn (turnO_size o act _ 3000100 ho (turnA_size p k hk))
def law_turned.T1 : Bool × List (List Nat × List Nat) := (true, [([], []), ([0], [0]), ([1], [1]), ([2], [2]), ([3], [3]), ([], []), ([5], [5]), ([6, 2], [6]), ([4, 7], [4, 7]), ([8, 7, 0, 1, 2, 3, 4, 5, 6, 7, 8], [8])])
def law_turned.B1 : List Nat := [0, 1, 3, 7, 15, 0, 32, 103, 255, 511]
theorem law_turned.tab1 : rtab .any (opsOf Tryz.f18 1) = law_turned.T1 := by kernel_rfl
theorem law_turned.bits1 : waitsOk law_turned.T1.2 law_turned.B1 = true := by kernel_rfl
set_option maxHeartbeats 16000000 in
set_option maxRecDepth 100000 in
theorem law_turned (x0 x1 x2 x3 x4 : Int) (k o n : ByteArray) (x8 : Int) (A9 : Option Addr) (n9 c9 : Nat) (A10 : Option Addr) (n10 c10 : Nat) (x11 x12 : Int) (act : Int) (w : World) (hk : k.size ≤ 1000000) (ho : o.size ≤ 1000000) (hn : n.size ≤ 1000000) :
    Calls Tryz.prog 18 #[.agg #[.int .i64 x0, .int .i64 x1, .int .i64 x2, .int .i64 x3, .int .i64 x4, .string k, .string o, .string n, .int .i64 x8, .slice A9 n9 c9, .slice A10 n10 c10, .int .i64 x11, .int .i64 x12], .int .i64 act] w fun e w' => e = .returned (.string (turnB x3 k o n act)) ∧ Below w.heap.size w w' := by
  obtain ⟨W1, hW1⟩ : ∃ W1, W1 = w.alloc (.cells #[.int .i64 x0, .int .i64 x1, .int .i64 x2, .int .i64 x3, .int .i64 x4, .string k, .string o, .string n, .int .i64 x8, .slice A9 n9 c9, .slice A10 n10 c10, .int .i64 x11, .int .i64 x12] 33) := ⟨_, rfl⟩
  have RR : Aside0 (IsRec W1 w.heap.size x0 x1 x2 x3 x4 k o n x8 (.slice A9 n9 c9) (.slice A10 n10 c10) x11 x12) := ⟨by rw [hW1]; exact blk_new w _⟩
  have BB : Aside0 (Below w.heap.size w W1) := ⟨by rw [hW1]; exact below_alloc (Below.refl _ _) _⟩
  have HK := Aside0.mk hk; have HO := Aside0.mk ho; have HN := Aside0.mk hn
  obtain ⟨T, hT⟩ : ∃ T, T = turnB x3 k o n act := ⟨_, rfl⟩
  rw [← hT]
  have TT := Aside0.mk hT; clear hk ho hn hT
  go_enter Tryz.func18, Tryz.ntmps18
  go_upto_region 1 with fail
  rw [← hW1]
  clear hW1
  refine start_ (n := 10) (S := fun w' => Below W1.drew.heap.size W1.drew w') (ds := []) #[false, false, false, false, false, false, false, false, false, false] (by kernel_rfl) rfl rfl (Below.refl _ _) (fun hHeld => ?_); refine with_tabW law_turned.tab1 law_turned.bits1 (fun HT_ HW_ => ?_)
  refine ord_ [0, 1, 5, 6, 2, 3, 4, 7, 8, 9] ?_
  have R0 : Aside0 (IsRec W1.drew w.heap.size x0 x1 x2 x3 x4 k o n x8 (.slice A9 n9 c9) (.slice A10 n10 c10) x11 x12) := ⟨IsRec.drew RR.out⟩
  have B0 := Aside0.mk (below_drew BB.out); have f1_ := Aside0.mk (IsRec.cell_3 R0.out); have f2_ := Aside0.mk (IsRec.cell_5 R0.out); clear RR BB
  generalize W1.drew = W0 at R0 B0 f1_ f2_ hHeld ⊢
  have u0 : (9223372036854775807 < 6 + (lowB x3).size) = False := eq_false (Nat.not_lt.2 (by have := lowB_size x3; have := mkW_size k; have := HK.out; omega))
  have u1 : (9223372036854775807 < 6 + (lowB x3).size + 1) = False := eq_false (Nat.not_lt.2 (by have := lowB_size x3; have := mkW_size k; have := HK.out; omega))
  have u2 : (9223372036854775807 < 6 + (lowB x3).size + 1 + (mkW k).size) = False := eq_false (Nat.not_lt.2 (by have := lowB_size x3; have := mkW_size k; have := HK.out; omega))
  iterate 4
    first
    | refine ordP (v := ?_) (a' := ?_) HT_ rfl rfl (by kernel_rfl) (fun _ _ _ h => h) (.inl ⟨by rfl, ?_⟩) ?_ ?_
      rotate_left
      · intro w'
        go_simp
        with_reducible rfl
      rotate_left
      · simp only [Act.put, List.setIfInBounds_toArray, List.set_cons_zero, List.set_cons_succ, i64_w, i32_w]
        rfl
    | refine ordT (v := ?_) (a' := ?_) HT_ HW_ rfl rfl (by kernel_rfl) (fun _ _ _ h => h) (.inl ⟨by rfl, ?_⟩) hHeld ?_ ?_
      rotate_left
      · intro w' hs
        have s1 := below_cell hs f1_.out; have s2 := below_cell hs f2_.out
        go_simp
        with_reducible rfl
      rotate_left
      · simp only [Act.put, List.setIfInBounds_toArray, List.set_cons_zero, List.set_cons_succ, i64_w, i32_w]
        rfl
  refine ord1 (N := some 8) HT_ rfl rfl (by kernel_rfl) (by decide) (fun K hK => ?_)
  refine goes_ Tryz.func16 (by kernel_rfl) rfl #[.int .i64 x3] (by rfl) rfl rfl (by (try simp only [List.map_toArray, List.map_cons, List.map_nil]); rfl) ?_
  refine (law_low x3 W0).mono ?_
  rintro e W2 ⟨rfl, hb⟩
  refine ⟨_, rfl, ?_⟩
  refine hK.out _ _ (below_step hHeld hb) (fun hHeld2 => ?_)
  clear hK K hb hHeld; have hHeld := hHeld2; clear hHeld2
  refine ordN (a' := ?_) ?_ ?_
  rotate_left
  · simp only [Act.put, List.setIfInBounds_toArray, List.set_cons_zero, List.set_cons_succ]
    rfl
  iterate 2
    refine ordP (v := ?_) (a' := ?_) HT_ rfl rfl (by kernel_rfl) (fun _ _ _ h => h) (.inl ⟨by rfl, ?_⟩) ?_ ?_
    rotate_left
    · intro w'
      go_simp
      with_reducible rfl
    rotate_left
    · simp only [Act.put, List.setIfInBounds_toArray, List.set_cons_zero, List.set_cons_succ, i64_w, i32_w]
      rfl
  refine ord1 (N := some 13) HT_ rfl rfl (by kernel_rfl) (by decide) (fun K hK => ?_)
  refine goes_ Tryz.func32 (by kernel_rfl) rfl #[.string k] (by rfl) rfl rfl (by (try simp only [List.map_toArray, List.map_cons, List.map_nil]); rfl) ?_
  refine (ref_word k W2 HK.out).mono ?_
  rintro e W3 ⟨rfl, hb⟩
  refine ⟨_, rfl, ?_⟩
  refine hK.out _ _ (below_step hHeld hb) (fun hHeld2 => ?_)
  clear hK K hb hHeld; have hHeld := hHeld2; clear hHeld2
  refine ordN (a' := ?_) ?_ ?_
  rotate_left
  · simp only [Act.put, List.setIfInBounds_toArray, List.set_cons_zero, List.set_cons_succ]
    rfl
  iterate 2
    refine ordP (v := ?_) (a' := ?_) HT_ rfl rfl (by kernel_rfl) (fun _ _ _ h => h) (.inl ⟨by rfl, ?_⟩) ?_ ?_
    rotate_left
    · intro w'
      go_simp
      with_reducible rfl
    rotate_left
    · simp only [Act.put, List.setIfInBounds_toArray, List.set_cons_zero, List.set_cons_succ, i64_w, i32_w]
      rfl
  refine ordD HT_ (by kernel_rfl) ?_
  have R3 := Aside0.mk (IsRec.below R0.out hHeld); have B3 := Aside0.mk (below_step B0.out hHeld); clear hHeld R0 B0 f1_ f2_ u0 u1 u2
  have hA : (((⟨#[32, 112, 97, 103, 101, 32]⟩ : ByteArray) ++ lowB x3) ++ ⟨#[32]⟩) ++ mkW k = turnA x3 k := rfl
  rw [hA]
  have hz := turnA_size x3 k HK.out
  have hT : T = turnN n act (turnO o act (turnA x3 k)) := TT.out
  clear TT
  generalize turnA x3 k = a at hz hT ⊢
  have HZ := Aside0.mk hz; clear hz hA
  obtain ⟨z0, z1, z2, z3, z4, z5, z6, z7, z8, z9, z10, z11, z12, z13, z14, z15, z16, z17, z18, z19, z20, z21, z22, z23, z24, z25⟩ := IsRec.all13 R3.out
  by_cases ca : act = 3
  · have b0 : (act != 3) = false := bne_eq_false_iff_eq.mpr ca
    have e0 : turnO o act a = a := if_pos ca
    have b1 : (act != 4) = true := bne_iff_ne.mpr (by omega)
    have e1 : turnN n act a = (a ++ ⟨#[32, 110, 101, 119, 32]⟩) ++ mkW n := if_neg (by omega)
    rw [e0, e1] at hT
    have TT := Aside0.mk hT; clear hT
    have v0 : (9223372036854775807 < a.size + 5) = False := eq_false (Nat.not_lt.2 (by have := HZ.out; omega))
    have v1 : (9223372036854775807 < a.size + 5 + (mkW n).size) = False := eq_false (Nat.not_lt.2 (by have := HZ.out; have := mkW_size n; have := HN.out; omega))
    clear ca e0 e1
    go_wp2_with fail
    refine (ref_word n W3 HN.out).mono ?_
    rintro e w4 ⟨rfl, hb⟩
    have B4 := Aside0.mk (below_step B3.out hb); clear hb
    go_wp2_with fail
    go_ret
    exact ⟨by rw [TT.out]; rfl, B4.out⟩
  · have b0 : (act != 3) = true := bne_iff_ne.mpr ca
    have e0 : turnO o act a = (a ++ ⟨#[32, 111, 108, 100, 32]⟩) ++ mkW o := if_neg ca
    rw [e0] at hT
    have v0 : (9223372036854775807 < a.size + 5) = False := eq_false (Nat.not_lt.2 (by have := HZ.out; omega))
    have v1 : (9223372036854775807 < a.size + 5 + (mkW o).size) = False := eq_false (Nat.not_lt.2 (by have := HZ.out; have := mkW_size o; have := HO.out; omega))
    by_cases cb : act = 4
    · have b1 : (act != 4) = false := bne_eq_false_iff_eq.mpr cb
      have e1 : ∀ b, turnN n act b = b := fun b => if_pos cb
      rw [e1] at hT
      have TT := Aside0.mk hT; clear hT; clear ca cb e0 e1
      go_wp2_with fail
      refine (ref_word o W3 HO.out).mono ?_
      rintro e w4 ⟨rfl, hb⟩
      have B4 := Aside0.mk (below_step B3.out hb); clear hb
      go_wp2_with fail
      go_ret
      exact ⟨by rw [TT.out]; rfl, B4.out⟩
    · have b1 : (act != 4) = true := bne_iff_ne.mpr cb
      have e1 : ∀ b, turnN n act b = (b ++ ⟨#[32, 110, 101, 119, 32]⟩) ++ mkW n := fun b => if_neg cb
      rw [e1] at hT
      have TT := Aside0.mk hT; clear hT
      have v2 : (9223372036854775807 < a.size + 5 + (mkW o).size + 5) = False := eq_false (Nat.not_lt.2 (by have := HZ.out; have := mkW_size o; have := HO.out; omega))
      have v3 : (9223372036854775807 < a.size + 5 + (mkW o).size + 5 + (mkW n).size) = False := eq_false (Nat.not_lt.2 (by have := HZ.out; have := mkW_size o; have := HO.out; have := mkW_size n; have := HN.out; omega))
      clear ca cb e0 e1
      go_wp2_with fail
      refine (ref_word o W3 HO.out).mono ?_
      rintro e w4 ⟨rfl, hb⟩
      have B4 := Aside0.mk (below_step B3.out hb); have R4 := Aside0.mk (IsRec.below R3.out hb); clear hb z0 z1 z2 z3 z4 z5 z6 z7 z8 z9 z10 z11 z12 z13 z14 z15 z16 z17 z18 z19 z20 z21 z22 z23 z24 z25
      obtain ⟨z0, z1, z2, z3, z4, z5, z6, z7, z8, z9, z10, z11, z12, z13, z14, z15, z16, z17, z18, z19, z20, z21, z22, z23, z24, z25⟩ := IsRec.all13 R4.out
      go_wp2_with fail
      refine (ref_word n w4 HN.out).mono ?_
      rintro e w5 ⟨rfl, hb⟩
      have B5 := Aside0.mk (below_step B4.out hb); clear hb
      go_wp2_with fail
      go_ret
      exact ⟨by rw [TT.out]; rfl, B5.out⟩
end Go.Proofs.YteoebfiacnploaaGreatDoor.HRec
namespace Go.Proofs.YteoebfiacnploaaGreatDoor.HRec
open Go.RowKit Go.Proofs.YteoebfiacnploaaGreatDoorW.PrintWords Go.Proofs.YteoebfiacnploaaGreatDoorW.PrintLast Go.Proofs.YteoebfiacnploaaGreatDoorW.PrintMore
set_option linter.unusedVariables false
set_option linter.unusedSimpArgs false
/-- All blocks but two are as they were. -/
def KeepX (g h : Nat) (w W : World) : Prop := w.heap.size ≤ W.heap.size ∧ ∀ i, i < w.heap.size → i ≠ g → i ≠ h → W.heap[i]? = w.heap[i]?
theorem KeepX.refl (g h : Nat) (w : World) : KeepX g h w w := ⟨Nat.le_refl _, fun _ _ _ _ => rfl⟩
theorem KeepX.call {g h : Nat} {w W W1 : World} (k : KeepX g h w W) (q : KeepBut W W1 g none) : KeepX g h w W1 := ⟨Nat.le_trans k.1 q.1, fun i hi hg hh => (q.2 i (Nat.lt_of_lt_of_le hi k.1) hg (by simp)).trans (k.2 i hi hg hh)⟩
theorem KeepX.set {g h : Nat} {w W : World} (k : KeepX g h w W) (j : Nat) (u : Value) : KeepX g h w (W.setCell ⟨h, j, none⟩ u) := ⟨by simpa [World.setCell] using k.1, fun i hi hg hh => (Below.heap_setCell W ⟨h, j, none⟩ u i hh).trans (k.2 i hi hg hh)⟩
set_option maxHeartbeats 4000000 in
set_option maxRecDepth 100000 in
theorem rec_readChange.calls2 (kf : Nat) (g h : Nat) (s : ByteArray) (p e act : Int) (x0 x1 x2 x3 x4 : Int) (k o n : ByteArray) (x8 : Int) (vI vT : Value) (x11 x12 : Int) (pg : Int) (ky od nw : ByteArray) (s' : ByteArray) (p' e' : Int) (w0 w : World) (hI : IsS124 w0 w g s p e) (hR : IsRec w h x0 x1 x2 x3 x4 k o n x8 vI vT x11 x12) (hh : w0.heap.size ≤ h) (hB : Below w0.heap.size w0 w) (hf : rec_readChange.f kf s p e act o n = some (pg, ky, od, nw, s', p', e')) :
    Calls Tryz.prog 86 #[.pointer (some ⟨g, 0, none⟩), .pointer (some ⟨h, 0, none⟩), .int .i64 act] w fun x w' => x = .returned (.tuple #[]) ∧ IsS124 w0 w' g s' p' e' ∧ IsRec w' h x0 x1 x2 pg x4 ky od nw x8 vI vT x11 x12 ∧ Below w0.heap.size w0 w' ∧ KeepX g h w w' := by
  unfold rec_readChange.f at hf
  replace hf := Option.bind_eq_some_iff.mp hf
  obtain ⟨⟨a, a1, a2, a3⟩, ha, hf⟩ := hf
  replace hf := Option.bind_eq_some_iff.mp hf
  obtain ⟨⟨b, b1, b2, b3⟩, hb, hf⟩ := hf
  replace hf := Option.bind_eq_some_iff.mp hf
  obtain ⟨⟨c, c1, c2, c3⟩, hc, hf⟩ := hf
  replace hf := Option.bind_eq_some_iff.mp hf
  obtain ⟨⟨d, d1, d2, d3⟩, hd, hf⟩ := hf
  simp only [Option.some.injEq, Prod.mk.injEq] at hf
  obtain ⟨rfl, rfl, rfl, rfl, rfl, rfl, rfl⟩ := hf
  have I0 := Aside0.mk hI; have R0 := Aside0.mk hR; have B0 := Aside0.mk hB; have K0 := Aside0.mk (KeepX.refl g h w); have HH := Aside0.mk hh
  have HNE := Aside0.mk (show h ≠ g from fun e => IsS124.ne_blk hI hR (by decide) e.symm)
  have A := Aside0.mk ha; have BB := Aside0.mk hb; clear hI hR hh hB ha hb
  by_cases h3 : act = 3
  · have t3 : (act != 3) = false := bne_eq_false_iff_eq.mpr (by omega)
    have u3 : (act == 3) = true := beq_iff_eq.mpr (by omega)
    have t4 : (act != 4) = true := bne_iff_ne.mpr (by omega)
    have u4 : (act == 4) = false := beq_eq_false_iff_ne.mpr (by omega)
    rw [textIf, t3, if_neg (by simp)] at hc
    simp only [Option.some.injEq, Prod.mk.injEq] at hc
    obtain ⟨rfl, rfl, rfl, rfl⟩ := hc
    rw [textIf, t4, if_pos rfl] at hd
    have D := Aside0.mk hd; clear hd
    go_enter Tryz.func86, Tryz.ntmps86
    go_wp2_with fail
    refine (pack_Reader_Num.calls g s p e 2 a a1 a2 a3 w0 _ I0.out B0.out A.out).mono ?_
    rintro x w1 ⟨rfl, q1, q2, q3⟩
    have I1 := Aside0.mk q1; have B1 := Aside0.mk q2; have R1 := Aside0.mk (IsRec.keep R0.out q3 HNE.out); have K1 := Aside0.mk (KeepX.call K0.out q3); have cf1 := IsRec.cell_3 R1.out; have ff1 := IsRec.free R1.out 3; clear q1 q2 q3
    go_wp2_with fail
    refine (pack_Reader_Text.calls kf g a1 a2 a3 16 b b1 b2 b3 w0 _ (IsS124.far I1.out (fun e => HNE.out e.symm) _) (below_set B1.out HH.out) BB.out).mono ?_
    rintro x w2 ⟨rfl, q1, q2, q3⟩
    have I2 := Aside0.mk q1; have B2 := Aside0.mk q2; have R2 := Aside0.mk (IsRec.keep (IsRec.set_3 R1.out a) q3 HNE.out); have K2 := Aside0.mk (KeepX.call (KeepX.set K1.out 3 _) q3); have cf2 := IsRec.cell_5 R2.out; have ff2 := IsRec.free R2.out 5; clear q1 q2 q3
    go_wp2_with fail
    refine (pack_Reader_Text.calls kf g b1 b2 b3 32 d d1 d2 d3 w0 _ (IsS124.far I2.out (fun e => HNE.out e.symm) _) (below_set B2.out HH.out) D.out).mono ?_
    rintro x w4 ⟨rfl, q1, q2, q3⟩
    have I4 := Aside0.mk q1; have B4 := Aside0.mk q2; have R4 := Aside0.mk (IsRec.keep (IsRec.set_5 R2.out b) q3 HNE.out); have K4 := Aside0.mk (KeepX.call (KeepX.set K2.out 5 _) q3); have cf4 := IsRec.cell_7 R4.out; have ff4 := IsRec.free R4.out 7; clear q1 q2 q3
    go_wp2_with fail
    first | go_end0 | ((try simp only [Exit.inBlock, Exit.then]); refine bodyPost_ret (results_none rfl _ _ _) rfl ?_)
    exact ⟨rfl, IsS124.far I4.out (fun e => HNE.out e.symm) _, (IsRec.set_7 R4.out d), below_set B4.out HH.out, (KeepX.set K4.out 7 _)⟩
  · by_cases h4 : act = 4
    · have t3 : (act != 3) = true := bne_iff_ne.mpr (by omega)
      have u3 : (act == 3) = false := beq_eq_false_iff_ne.mpr (by omega)
      have t4 : (act != 4) = false := bne_eq_false_iff_eq.mpr (by omega)
      have u4 : (act == 4) = true := beq_iff_eq.mpr (by omega)
      rw [textIf, t3, if_pos rfl] at hc
      have C := Aside0.mk hc; clear hc
      rw [textIf, t4, if_neg (by simp)] at hd
      simp only [Option.some.injEq, Prod.mk.injEq] at hd
      obtain ⟨rfl, rfl, rfl, rfl⟩ := hd
      go_enter Tryz.func86, Tryz.ntmps86
      go_wp2_with fail
      refine (pack_Reader_Num.calls g s p e 2 a a1 a2 a3 w0 _ I0.out B0.out A.out).mono ?_
      rintro x w1 ⟨rfl, q1, q2, q3⟩
      have I1 := Aside0.mk q1; have B1 := Aside0.mk q2; have R1 := Aside0.mk (IsRec.keep R0.out q3 HNE.out); have K1 := Aside0.mk (KeepX.call K0.out q3); have cf1 := IsRec.cell_3 R1.out; have ff1 := IsRec.free R1.out 3; clear q1 q2 q3
      go_wp2_with fail
      refine (pack_Reader_Text.calls kf g a1 a2 a3 16 b b1 b2 b3 w0 _ (IsS124.far I1.out (fun e => HNE.out e.symm) _) (below_set B1.out HH.out) BB.out).mono ?_
      rintro x w2 ⟨rfl, q1, q2, q3⟩
      have I2 := Aside0.mk q1; have B2 := Aside0.mk q2; have R2 := Aside0.mk (IsRec.keep (IsRec.set_3 R1.out a) q3 HNE.out); have K2 := Aside0.mk (KeepX.call (KeepX.set K1.out 3 _) q3); have cf2 := IsRec.cell_5 R2.out; have ff2 := IsRec.free R2.out 5; clear q1 q2 q3
      go_wp2_with fail
      refine (pack_Reader_Text.calls kf g b1 b2 b3 32 c c1 c2 c3 w0 _ (IsS124.far I2.out (fun e => HNE.out e.symm) _) (below_set B2.out HH.out) C.out).mono ?_
      rintro x w3 ⟨rfl, q1, q2, q3⟩
      have I3 := Aside0.mk q1; have B3 := Aside0.mk q2; have R3 := Aside0.mk (IsRec.keep (IsRec.set_5 R2.out b) q3 HNE.out); have K3 := Aside0.mk (KeepX.call (KeepX.set K2.out 5 _) q3); have cf3 := IsRec.cell_6 R3.out; have ff3 := IsRec.free R3.out 6; clear q1 q2 q3
      go_wp2_with fail
      first | go_end0 | ((try simp only [Exit.inBlock, Exit.then]); refine bodyPost_ret (results_none rfl _ _ _) rfl ?_)
      exact ⟨rfl, IsS124.far I3.out (fun e => HNE.out e.symm) _, (IsRec.set_6 R3.out c), below_set B3.out HH.out, (KeepX.set K3.out 6 _)⟩
    · have t3 : (act != 3) = true := bne_iff_ne.mpr (by omega)
      have u3 : (act == 3) = false := beq_eq_false_iff_ne.mpr (by omega)
      have t4 : (act != 4) = true := bne_iff_ne.mpr (by omega)
      have u4 : (act == 4) = false := beq_eq_false_iff_ne.mpr (by omega)
      rw [textIf, t3, if_pos rfl] at hc
      have C := Aside0.mk hc; clear hc
      rw [textIf, t4, if_pos rfl] at hd
      have D := Aside0.mk hd; clear hd
      go_enter Tryz.func86, Tryz.ntmps86
      go_wp2_with fail
      refine (pack_Reader_Num.calls g s p e 2 a a1 a2 a3 w0 _ I0.out B0.out A.out).mono ?_
      rintro x w1 ⟨rfl, q1, q2, q3⟩
      have I1 := Aside0.mk q1; have B1 := Aside0.mk q2; have R1 := Aside0.mk (IsRec.keep R0.out q3 HNE.out); have K1 := Aside0.mk (KeepX.call K0.out q3); have cf1 := IsRec.cell_3 R1.out; have ff1 := IsRec.free R1.out 3; clear q1 q2 q3
      go_wp2_with fail
      refine (pack_Reader_Text.calls kf g a1 a2 a3 16 b b1 b2 b3 w0 _ (IsS124.far I1.out (fun e => HNE.out e.symm) _) (below_set B1.out HH.out) BB.out).mono ?_
      rintro x w2 ⟨rfl, q1, q2, q3⟩
      have I2 := Aside0.mk q1; have B2 := Aside0.mk q2; have R2 := Aside0.mk (IsRec.keep (IsRec.set_3 R1.out a) q3 HNE.out); have K2 := Aside0.mk (KeepX.call (KeepX.set K1.out 3 _) q3); have cf2 := IsRec.cell_5 R2.out; have ff2 := IsRec.free R2.out 5; clear q1 q2 q3
      go_wp2_with fail
      refine (pack_Reader_Text.calls kf g b1 b2 b3 32 c c1 c2 c3 w0 _ (IsS124.far I2.out (fun e => HNE.out e.symm) _) (below_set B2.out HH.out) C.out).mono ?_
      rintro x w3 ⟨rfl, q1, q2, q3⟩
      have I3 := Aside0.mk q1; have B3 := Aside0.mk q2; have R3 := Aside0.mk (IsRec.keep (IsRec.set_5 R2.out b) q3 HNE.out); have K3 := Aside0.mk (KeepX.call (KeepX.set K2.out 5 _) q3); have cf3 := IsRec.cell_6 R3.out; have ff3 := IsRec.free R3.out 6; clear q1 q2 q3
      go_wp2_with fail
      refine (pack_Reader_Text.calls kf g c1 c2 c3 32 d d1 d2 d3 w0 _ (IsS124.far I3.out (fun e => HNE.out e.symm) _) (below_set B3.out HH.out) D.out).mono ?_
      rintro x w4 ⟨rfl, q1, q2, q3⟩
      have I4 := Aside0.mk q1; have B4 := Aside0.mk q2; have R4 := Aside0.mk (IsRec.keep (IsRec.set_6 R3.out c) q3 HNE.out); have K4 := Aside0.mk (KeepX.call (KeepX.set K3.out 6 _) q3); have cf4 := IsRec.cell_7 R4.out; have ff4 := IsRec.free R4.out 7; clear q1 q2 q3
      go_wp2_with fail
      first | go_end0 | ((try simp only [Exit.inBlock, Exit.then]); refine bodyPost_ret (results_none rfl _ _ _) rfl ?_)
      exact ⟨rfl, IsS124.far I4.out (fun e => HNE.out e.symm) _, (IsRec.set_7 R4.out d), below_set B4.out HH.out, (KeepX.set K4.out 7 _)⟩
end Go.Proofs.YteoebfiacnploaaGreatDoor.HRec
namespace Go.Proofs.YteoebfiacnploaaGreatDoor.HRec
open Go.RowKit Go.Proofs.YteoebfiacnploaaGreatDoor.HRec Go.Proofs.YteoebfiacnploaaGreatDoorW.PrintWords Go.Proofs.YteoebfiacnploaaGreatDoorW.PrintLast Go.Proofs.YteoebfiacnploaaGreatDoorW.PrintMore
attribute [local go_sem] max2_int min2_int max_two min_two max_three min_three max_four min_four   -- for this text's walks alone
set_option linter.unusedVariables false
set_option linter.unusedSimpArgs false
/-! ### pack_limit: function 64 -/
def pack_limit.f (a0 : Int) : Option (Int) := if 0 ≤ (wrap64 (8 * a0)) then (some (shl .i64 1 (wrap64 (8 * a0)))) else (none)
set_option maxHeartbeats 8000000 in
set_option maxRecDepth 100000 in
theorem pack_limit.calls (a0 : Int) (r : Int) (w : World) (h : pack_limit.f a0 = some r) :
    Calls Tryz.prog 82 #[.int .i64 a0] w fun e w' => e = .returned (.int .i64 r) ∧ Drawn0 w w' := by
  have H : (if 0 ≤ (wrap64 (8 * a0)) then (some (shl .i64 1 (wrap64 (8 * a0)))) else (none)) = some r := h
  clear h
  obtain ⟨ji2, hji2⟩ : ∃ j_ : Int, (wrap64 (8 * a0)) = j_ := ⟨_, rfl⟩
  replace H : (if 0 ≤ (ji2) then (some (shl .i64 1 (ji2))) else (none)) = some r := by first | (rw [hji2] at H; exact H) | (simp only [hji2] at H ⊢; exact H)
  have hji2w : (IntKind.i64.wrap (8 * a0)) = ji2 := (i64_w _).trans hji2
  by_cases c3 : 0 ≤ (ji2)
  · rw [if_pos c3] at H
    have c3b0 := eq_true c3
    have c3b1 : decide (0 ≤ (ji2)) = true := decide_eq_true c3
    clear c3
    obtain ⟨ji4, hji4⟩ : ∃ j_ : Int, (shl .i64 1 (ji2)) = j_ := ⟨_, rfl⟩
    replace H : (some ji4) = some r := by first | (rw [hji4] at H; exact H) | (simp only [hji4] at H ⊢; exact H)
    have hji4_ : (IntKind.i64.wrap (1 * 2 ^ min (ji2).toNat 64)) = ji4 := hji4
    have hji4z : (ji2) ≤ 64 → (IntKind.i64.wrap (1 * 2 ^ (ji2).toNat)) = ji4 := shl_small hji4
    have hji4u : (IntKind.i64.wrap (2 ^ min (ji2).toNat 64)) = ji4 := by have h_ := hji4_; rw [Int.one_mul] at h_; exact h_
    have hji4v : (ji2) ≤ 64 → (IntKind.i64.wrap (2 ^ (ji2).toNat)) = ji4 := fun hle_ => by have h_ := hji4z hle_; rw [Int.one_mul] at h_; exact h_
    have hji4y : (wrap64 (1 * 2 ^ min (ji2).toNat 64)) = ji4 := (i64_w _).symm.trans hji4_
    have hji4x : (ji2) ≤ 64 → (wrap64 (1 * 2 ^ (ji2).toNat)) = ji4 := fun h_ => (i64_w _).symm.trans (hji4z h_)
    obtain rfl := Option.some.inj H
    go_enter Tryz.func82, Tryz.ntmps82
    go_wp2
    go_ret
    exact ⟨by first | rfl | (simp; done) | (simp only [← hji2, ← hji4] <;> (first | rfl | simp)) | (simp [*]; done), by repeat (first | exact Drawn0.refl _ | apply Drawn0.step)⟩
  · rw [if_neg c3] at H
    exact absurd H (by simp)

end Go.Proofs.YteoebfiacnploaaGreatDoor.HRec
