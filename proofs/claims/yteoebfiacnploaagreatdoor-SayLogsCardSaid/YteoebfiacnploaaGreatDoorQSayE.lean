/- The law's awake: its one line is parsed as it says. It proves no statement. -/
import Derived.Test.YteoebfiacnploaaGreatDoorQG4
import Derived.Test.YteoebfiacnploaaGreatDoorQG17
namespace Go.Proofs.YteoebfiacnploaaGreatDoor.HRec
open Go.RowKit Go.Proofs.YteoebfiacnploaaGreatDoorW.PrintWords Go.Proofs.YteoebfiacnploaaGreatDoorW.PrintLast Go.Proofs.YteoebfiacnploaaGreatDoorW.PrintMore Go.Proofs.YteoebfiacnploaaGreatDoor.SayPure
set_option linter.unusedVariables false
set_option linter.unusedSimpArgs false
set_option maxHeartbeats 16000000 in
set_option maxRecDepth 100000 in
theorem form_1 (w : World) : Calls Tryz.prog 42 #[.int .i64 1] w fun e w' => e = .returned (.tuple #[.string ⟨#[98, 101, 103, 105, 110]⟩, .slice (some ⟨w.heap.size, 0, none⟩) 2 2]) ∧ w' = w.alloc (.cells #[.int .i64 1, .int .i64 2] 3) := by
  go_enter Tryz.func42, Tryz.ntmps42
  go_wp2_with fail
  go_ret2
  exact ⟨rfl, rfl⟩
set_option maxHeartbeats 16000000 in
set_option maxRecDepth 100000 in
theorem form_2 (w : World) : Calls Tryz.prog 42 #[.int .i64 2] w fun e w' => e = .returned (.tuple #[.string ⟨#[103, 101, 116]⟩, .slice (some ⟨w.heap.size, 0, none⟩) 2 2]) ∧ w' = w.alloc (.cells #[.int .i64 1, .int .i64 5] 3) := by
  go_enter Tryz.func42, Tryz.ntmps42
  go_wp2_with fail
  go_ret2
  exact ⟨rfl, rfl⟩
set_option maxHeartbeats 16000000 in
set_option maxRecDepth 100000 in
theorem form_3 (w : World) : Calls Tryz.prog 42 #[.int .i64 3] w fun e w' => e = .returned (.tuple #[.string ⟨#[112, 117, 116]⟩, .slice (some ⟨w.heap.size, 0, none⟩) 3 3]) ∧ w' = w.alloc (.cells #[.int .i64 1, .int .i64 5, .int .i64 6] 3) := by
  go_enter Tryz.func42, Tryz.ntmps42
  go_wp2_with fail
  go_ret2
  exact ⟨rfl, rfl⟩
set_option maxHeartbeats 16000000 in
set_option maxRecDepth 100000 in
theorem kind_put (w : World) : Calls Tryz.prog 41 #[.string ⟨#[112, 117, 116]⟩] w fun e w' => e = .returned (.int .i64 3) ∧ Below w.heap.size w w' := by
  have HB := Aside0.mk (Below.refl w.heap.size w)
  go_enter Tryz.func41, Tryz.ntmps41
  go_wp2_with fail
  go_loopg [3] 2 (fun kq v3 w' => ∃ j : Int, v3 = .int .i64 j ∧ Aside0 (j + kq = 3 ∧ 1 ≤ j) ∧ Aside0 (Below w.heap.size w w'))
  case atStart => exact ⟨1, rfl, ⟨by omega, by omega⟩, HB⟩
  case round =>
    clear HB
    obtain ⟨j, rfl, HN, HB⟩ := hrel
    rcases (show j = 1 ∨ j = 2 ∨ j = 3 by have := HN.out; omega) with rfl | rfl | rfl
    · go_wp2_with fail
      refine (form_1 _).mono ?_
      rintro e w1 ⟨rfl, rfl⟩
      have HB1 := Aside0.mk (below_alloc HB.out (.cells #[.int .i64 1, .int .i64 2] 3))
      go_wp2_with fail
      cases gk with
      | zero => exact absurd HN.out.1 (by omega)
      | succ k1 =>
        go_roundg k1
        case measure => omega
        case rel => exact ⟨2, by first | rfl | decide, ⟨by have := HN.out; omega, by omega⟩, HB1⟩
    · go_wp2_with fail
      refine (form_2 _).mono ?_
      rintro e w1 ⟨rfl, rfl⟩
      have HB1 := Aside0.mk (below_alloc HB.out (.cells #[.int .i64 1, .int .i64 5] 3))
      go_wp2_with fail
      cases gk with
      | zero => exact absurd HN.out.1 (by omega)
      | succ k1 =>
        go_roundg k1
        case measure => omega
        case rel => exact ⟨3, by first | rfl | decide, ⟨by have := HN.out; omega, by omega⟩, HB1⟩
    · go_wp2_with fail
      refine (form_3 _).mono ?_
      rintro e w1 ⟨rfl, rfl⟩
      have HB1 := Aside0.mk (below_alloc HB.out (.cells #[.int .i64 1, .int .i64 5, .int .i64 6] 3))
      go_wp2_with fail
      go_ret
      exact ⟨rfl, HB1.out⟩
set_option maxHeartbeats 16000000 in
set_option maxRecDepth 100000 in
theorem count_0 (w : World) : Calls Tryz.prog 68 #[.string ⟨#[48]⟩, .int .u64 1073741824] w fun e w' => e = .returned (.tuple #[.int .u64 0, .bool true]) ∧ Below w.heap.size w w' := by
  have hcv := fun W => print_bytes (P := Tryz.prog) 9 57 5 Tryz.underlying9 Tryz.underlying57 Tryz.underlying5 ⟨#[48]⟩ W
  go_enter Tryz.func68, Tryz.ntmps68
  go_wp2_with fail
  obtain ⟨ad, e1, hx0⟩ := (bytes_reads w 5 ⟨#[48]⟩ (by decide)).at_ 0 (by decide) (by decide)
  obtain rfl : (⟨w.heap.size, 0, none⟩ : Addr) = ad := Option.some.inj e1
  have hx1 : (Lib.bytesWorld w 5 ⟨#[48]⟩).cell? ⟨w.heap.size, 0, none⟩ = some (.int .u8 48) := hx0
  have HB := Aside0.mk (bytes_below (Below.refl w.heap.size w) (Nat.le_refl _) 5 ⟨#[48]⟩)
  have HX := Aside0.mk hx1; clear hcv e1 hx0 hx1
  generalize Lib.bytesWorld w 5 ⟨#[48]⟩ = W2 at HB HX ⊢
  generalize w.heap.size = g at HX ⊢
  go_loopg [6, 30] 1 (fun kq v6 v30 w' => v6 = .int .u64 0 ∧ ∃ j : Int, v30 = .int .i64 j ∧ Aside0 (j + kq = 1 ∧ 0 ≤ j) ∧ Aside0 (Below w.heap.size w w' ∧ w'.cell? ⟨g, 0, none⟩ = some (.int .u8 48)))
  case atStart => exact ⟨rfl, 0, rfl, ⟨by omega, by omega⟩, ⟨HB.out, HX.out⟩⟩
  case round =>
    clear HB HX
    obtain ⟨rfl, j, rfl, HN, HX⟩ := hrel
    rcases (show j = 0 ∨ j = 1 by have := HN.out; omega) with rfl | rfl
    · have hx := HX.out.2
      go_wp2_with fail
      cases gk with
      | zero => exact absurd HN.out.1 (by omega)
      | succ k1 =>
        go_roundg k1
        case measure => omega
        case rel => exact ⟨by first | rfl | decide, 1, by first | rfl | decide, ⟨by have := HN.out; omega, by omega⟩, HX⟩
    · go_wp2_with fail
      go_ret2
      exact ⟨by first | rfl | decide, HX.out.1⟩
set_option maxHeartbeats 16000000 in
set_option maxRecDepth 100000 in
theorem text_a (w : World) : Calls Tryz.prog 67 #[.string ⟨#[61, 97]⟩] w fun e w' => e = .returned (.tuple #[.string ⟨#[97]⟩, .int .i64 0]) ∧ Below w.heap.size w w' := by
  obtain ⟨b, hb⟩ : ∃ b, b = w.heap.size := ⟨_, rfl⟩
  have HBQ := Aside0.mk hb
  obtain ⟨W1, hW1⟩ : ∃ W1, W1 = w.alloc (.cells #[.pointer none, .slice none 0 0] 59) := ⟨_, rfl⟩
  have HI : Aside0 (Lib.IsBuilder 59 5 b b [] W1) := ⟨.inl ⟨Nat.le_refl _, .slice none 0 0, by rw [hW1, hb]; exact blk_new w _, World.ownsRow_nil _ _ _ _, by simp [Value.ownBlock]⟩⟩
  have HB : Aside0 (Below b w W1) := ⟨by rw [hW1, hb]; exact below_alloc (Below.refl _ _) _⟩
  have i0 : ((⟨#[61, 97]⟩ : ByteArray)[0]'(by decide)).toNat = 61 := rfl
  have i1 : ((⟨#[61, 97]⟩ : ByteArray)[1]'(by decide)).toNat = 97 := rfl
  rw [← hb]
  go_enter Tryz.func67, Tryz.ntmps67
  go_upto_region 4 with fail
  rw [← hW1, ← hb]
  clear hW1 hb
  go_wp2_with fail
  go_loopg [5] 1 (fun kq v5 w' => ∃ j : Int, v5 = .int .i64 j ∧ Aside0 (j + kq = 2 ∧ 1 ≤ j) ∧ Aside0 (Lib.IsBuilder 59 5 b b (if j = 1 then [] else [.int .u8 97]) w') ∧ Aside0 (Below b w w'))
  case atStart => exact ⟨1, rfl, ⟨by omega, by omega⟩, HI, HB⟩
  case round =>
    clear HI HB
    obtain ⟨j, rfl, HN, HI, HB⟩ := hrel
    rcases (show j = 1 ∨ j = 2 by have := HN.out; omega) with rfl | rfl
    · go_wp2_with fail
      refine (HBase.say_bare.calls 97 true _ (by decide)).mono ?_
      rintro e w3 ⟨rfl, ⟨nd, rfl⟩⟩
      go_wp2_with fail
      refine (Hook.writeByte b b [] 97 (wr.drewN nd) (Hook.isBuilder_old (w' := wr.drewN nd) HI.out (fun _ _ => rfl)) (by decide) (Nat.le_trans (Nat.le_of_eq HBQ.out) HB.out.size)).mono ?_
      rintro e w4 ⟨rfl, hI4, hb4, hk4⟩
      have HI4 := Aside0.mk hI4; have HB4 := Aside0.mk ((pw_below_drewN HB.out nd).trans hb4); clear hI4 hb4 hk4
      go_wp2_with fail
      cases gk with
      | zero => exact absurd HN.out.1 (by omega)
      | succ k1 =>
        go_roundg k1
        case measure => omega
        case rel => exact ⟨2, by first | rfl | decide, ⟨by have := HN.out; omega, by omega⟩, HI4, HB4⟩
    · go_wp2_with fail
      refine (Tryz.Builder_String_any b b [97] wr HI.out (Nat.le_trans (Nat.le_of_eq HBQ.out) HB.out.size)).mono ?_
      rintro e w3 ⟨rfl, hb3⟩
      go_wp2_with fail
      go_ret2
      exact ⟨rfl, HB.out.trans hb3⟩
def say_Text.T11 : Bool × List (List Nat × List Nat) := (true, [([], []), ([], []), ([1], [1]), ([0, 2], [0, 2]), ([3], [3]), ([], []), ([], []), ([6], [6]), ([5, 7], [5, 7]), ([8, 4], [8]), ([4, 9, 0, 1, 2, 3, 4], [4]), ([9, 10, 0, 1, 2, 3, 4, 5, 6, 7, 8, 9, 10], [9])])
def say_Text.B11 : List Nat := [0, 0, 2, 7, 15, 0, 0, 64, 224, 511, 1023, 2047]
theorem say_Text.tab11 : rtab .any (opsOf Tryz.f67 11) = say_Text.T11 := by kernel_rfl
theorem say_Text.bits11 : waitsOk say_Text.T11.2 say_Text.B11 = true := by kernel_rfl
theorem hex2 (w : World) : Calls Tryz.prog 95 #[.string ⟨#[48, 49, 50, 51, 52, 53, 54, 55, 56, 57, 65, 66, 67, 68, 69, 70]⟩, .int .u8 50] w fun e w' => e = .returned (.int .i64 2) ∧ w' = w := Tryz.strings_IndexByte ⟨#[48, 49, 50, 51, 52, 53, 54, 55, 56, 57, 65, 66, 67, 68, 69, 70]⟩ 50 w
theorem hex0 (w : World) : Calls Tryz.prog 95 #[.string ⟨#[48, 49, 50, 51, 52, 53, 54, 55, 56, 57, 65, 66, 67, 68, 69, 70]⟩, .int .u8 48] w fun e w' => e = .returned (.int .i64 0) ∧ w' = w := Tryz.strings_IndexByte ⟨#[48, 49, 50, 51, 52, 53, 54, 55, 56, 57, 65, 66, 67, 68, 69, 70]⟩ 48 w
set_option maxHeartbeats 16000000 in
set_option maxRecDepth 100000 in
theorem text_sp (w : World) : Calls Tryz.prog 67 #[.string ⟨#[61, 37, 50, 48]⟩] w fun e w' => e = .returned (.tuple #[.string ⟨#[32]⟩, .int .i64 0]) ∧ Below w.heap.size w w' := by
  obtain ⟨b, hb⟩ : ∃ b, b = w.heap.size := ⟨_, rfl⟩
  have HBQ := Aside0.mk hb
  obtain ⟨W1, hW1⟩ : ∃ W1, W1 = w.alloc (.cells #[.pointer none, .slice none 0 0] 59) := ⟨_, rfl⟩
  have HI : Aside0 (Lib.IsBuilder 59 5 b b [] W1) := ⟨.inl ⟨Nat.le_refl _, .slice none 0 0, by rw [hW1, hb]; exact blk_new w _, World.ownsRow_nil _ _ _ _, by simp [Value.ownBlock]⟩⟩
  have HB : Aside0 (Below b w W1) := ⟨by rw [hW1, hb]; exact below_alloc (Below.refl _ _) _⟩
  have i0 : ((⟨#[61, 37, 50, 48]⟩ : ByteArray)[0]'(by decide)).toNat = 61 := rfl
  have i1 : ((⟨#[61, 37, 50, 48]⟩ : ByteArray)[1]'(by decide)).toNat = 37 := rfl
  have i2 : ((⟨#[61, 37, 50, 48]⟩ : ByteArray)[2]'(by decide)).toNat = 50 := rfl
  have i3 : ((⟨#[61, 37, 50, 48]⟩ : ByteArray)[3]'(by decide)).toNat = 48 := rfl
  have w2 : wrap64 2 = 2 := w64 (by omega) (by omega)
  have w3 : wrap64 3 = 3 := w64 (by omega) (by omega)
  have w5 : bits BinOp.or IntKind.i64 32 0 = 32 := by kernel_rfl
  rw [← hb]
  go_enter Tryz.func67, Tryz.ntmps67
  go_upto_region 4 with fail
  rw [← hW1, ← hb]
  clear hW1 hb
  go_wp2_with fail
  go_loopg [5] 1 (fun kq v5 w' => ∃ j : Int, v5 = .int .i64 j ∧ Aside0 (j + 3 * kq = 4 ∧ 1 ≤ j) ∧ Aside0 (Lib.IsBuilder 59 5 b b (if j = 1 then [] else [.int .u8 32]) w') ∧ Aside0 (Below b w w'))
  case atStart => exact ⟨1, rfl, ⟨by omega, by omega⟩, HI, HB⟩
  case round =>
    clear HI HB
    obtain ⟨j, rfl, HN, HI, HB⟩ := hrel
    rcases (show j = 1 ∨ j = 4 by have := HN.out; omega) with rfl | rfl
    · go_wp2_with fail
      refine (HBase.say_bare.calls 37 false _ (by decide)).mono ?_
      rintro e w3 ⟨rfl, ⟨nd, rfl⟩⟩
      have HI := Aside0.mk (Hook.isBuilder_old (w' := wr.drewN nd) HI.out (fun _ _ => rfl))
      have HB := Aside0.mk (pw_below_drewN HB.out nd)
      generalize wr.drewN nd = wr at HI HB ⊢
      go_upto_region 11 with fail
      refine start_ (n := 12) (S := fun w' => w' = wr.drew) (ds := []) #[false, false, false, false, false, false, false, false, false, false, false, false] (by kernel_rfl) rfl rfl rfl (fun hHeld => ?_); refine with_tabW say_Text.tab11 say_Text.bits11 (fun HT_ HW_ => ?_)
      refine ord_ [0, 1, 2, 3, 5, 6, 7, 8, 4, 9, 10, 11] ?_
      have HI := Aside0.mk (builder_drew HI.out); have HB := Aside0.mk (below_drew HB.out); clear hHeld
      generalize wr.drew = W0 at HI HB ⊢
      iterate 8
        refine ordP (v := ?_) (a' := ?_) HT_ rfl rfl (by kernel_rfl) (fun _ _ _ h => h) (.inl ⟨by rfl, ?_⟩) ?_ ?_
        rotate_left
        · intro w'
          go_simp
          with_reducible rfl
        rotate_left
        · simp only [Act.put, List.setIfInBounds_toArray, List.set_cons_zero, List.set_cons_succ, i64_w, i32_w]
          rfl
      refine ord1 (N := some 44) HT_ rfl rfl (by kernel_rfl) (by decide) (fun K hK => ?_)
      refine goes_ Tryz.func95 (by kernel_rfl) rfl #[.string ⟨#[48, 49, 50, 51, 52, 53, 54, 55, 56, 57, 65, 66, 67, 68, 69, 70]⟩, .int .u8 50] (by rfl) rfl rfl (by (try simp only [List.map_toArray, List.map_cons, List.map_nil]); rfl) ?_
      refine (hex2 W0).mono ?_
      rintro e w9 ⟨rfl, he⟩
      obtain rfl : W0 = w9 := he.symm
      refine ⟨_, rfl, ?_⟩
      refine hK.out _ _ rfl (fun _ => ?_)
      clear hK K
      refine ordN (a' := ?_) ?_ ?_
      rotate_left
      · simp only [Act.put, List.setIfInBounds_toArray, List.set_cons_zero, List.set_cons_succ]
        rfl
      refine ord1 (N := some 49) HT_ rfl rfl (by kernel_rfl) (by decide) (fun K hK => ?_)
      refine goes_ Tryz.func95 (by kernel_rfl) rfl #[.string ⟨#[48, 49, 50, 51, 52, 53, 54, 55, 56, 57, 65, 66, 67, 68, 69, 70]⟩, .int .u8 48] (by rfl) rfl rfl (by (try simp only [List.map_toArray, List.map_cons, List.map_nil]); rfl) ?_
      refine (hex0 W0).mono ?_
      rintro e w9 ⟨rfl, he⟩
      obtain rfl : W0 = w9 := he.symm
      refine ⟨_, rfl, ?_⟩
      refine hK.out _ _ rfl (fun _ => ?_)
      clear hK K
      refine ordN (a' := ?_) ?_ ?_
      rotate_left
      · simp only [Act.put, List.setIfInBounds_toArray, List.set_cons_zero, List.set_cons_succ]
        rfl
      iterate 2
        refine ordP (v := ?_) (a' := ?_) HT_ rfl rfl (by kernel_rfl) (fun _ _ _ h => h) (.inl ⟨by rfl, ?_⟩) ?_ ?_
        rotate_left
        · intro w'
          go_simp
          with_reducible rfl
        rotate_left
        · simp only [Act.put, List.setIfInBounds_toArray, List.set_cons_zero, List.set_cons_succ, i64_w, i32_w]
          rfl
      refine ordD HT_ (by kernel_rfl) ?_
      clear HT_ HW_
      go_wp2_with fail
      refine (HBase.say_bare.calls 32 false _ (by decide)).mono ?_
      rintro e w3 ⟨rfl, ⟨nd, rfl⟩⟩
      go_wp2_with fail
      refine (Hook.writeByte b b [] 32 (W0.drewN nd) (Hook.isBuilder_old (w' := W0.drewN nd) HI.out (fun _ _ => rfl)) (by decide) (Nat.le_trans (Nat.le_of_eq HBQ.out) HB.out.size)).mono ?_
      rintro e w4 ⟨rfl, hI4, hb4, hk4⟩
      have HI4 := Aside0.mk hI4; have HB4 := Aside0.mk ((pw_below_drewN HB.out nd).trans hb4); clear hI4 hb4 hk4
      go_wp2_with fail
      cases gk with
      | zero => exact absurd HN.out.1 (by omega)
      | succ k1 =>
        go_roundg k1
        case measure => omega
        case rel => exact ⟨4, by first | rfl | decide, ⟨by have := HN.out; omega, by omega⟩, HI4, HB4⟩
    · go_wp2_with fail
      refine (Tryz.Builder_String_any b b [32] wr HI.out (Nat.le_trans (Nat.le_of_eq HBQ.out) HB.out.size)).mono ?_
      rintro e w3 ⟨rfl, hb3⟩
      go_wp2_with fail
      go_ret2
      exact ⟨rfl, HB.out.trans hb3⟩
def IsAct (W : World) (g : Nat) (k no wh n ke : Int) (key val : ByteArray) (fl : Bool) : Prop := W.heap[g]? = some (.cells #[.int .i64 k, .int .i64 no, .int .i64 wh, .int .i64 n, .int .u64 ke, .string key, .string val, .bool fl] 67 (0, 0))
set_option maxHeartbeats 16000000 in
set_option maxRecDepth 100000 in
theorem read_who (B g : Nat) (k no wh n ke : Int) (key val : ByteArray) (fl : Bool) (w : World) (h : IsAct w g k no wh n ke key val fl) (hB : B ≤ g) :
    Calls Tryz.prog 43 #[.pointer (some ⟨g, 0, none⟩), .int .i64 1, .string ⟨#[48]⟩] w fun e w' => e = .returned (.int .i64 0) ∧ IsAct w' g k no 0 n ke key val fl ∧ Below B w w' ∧ ∀ q, q < w.heap.size → q ≠ g → w'.heap[q]? = w.heap[q]? := by
  have HA := Aside0.mk h; have HG := Aside0.mk (blk_lt h); have HB := Aside0.mk hB; clear h hB
  go_enter Tryz.func43, Tryz.ntmps43
  go_wp2_with fail
  refine (count_0 _).mono ?_
  rintro e w1 ⟨rfl, hb⟩
  have c_ : w1.cell? ⟨g, 2, none⟩ = _ := blk_cell ((hb.block g HG.out).trans HA.out) 2
  have f_ : w1.frozen? ⟨g, 2, none⟩ = false := Lib.frozen_of_heap ((hb.block g HG.out).trans HA.out) 2
  have HB1 := Aside0.mk hb; clear hb
  go_wp2_with fail
  go_ret
  refine ⟨rfl, ?_, ?_, fun q hq hne => (Below.heap_setCell _ _ _ _ hne).trans (HB1.out.block q hq)⟩
  · exact (blk_set ((HB1.out.block g HG.out).trans HA.out) 2 _).trans (by simp)
  · exact (HB1.out.mono (Nat.le_trans HB.out (Nat.le_of_lt HG.out))).setCell (p := ⟨g, 2, none⟩) HB.out _
set_option maxHeartbeats 16000000 in
set_option maxRecDepth 100000 in
theorem read_key (B g : Nat) (k no wh n ke : Int) (key val : ByteArray) (fl : Bool) (w : World) (h : IsAct w g k no wh n ke key val fl) (hB : B ≤ g) :
    Calls Tryz.prog 43 #[.pointer (some ⟨g, 0, none⟩), .int .i64 5, .string ⟨#[61, 97]⟩] w fun e w' => e = .returned (.int .i64 0) ∧ IsAct w' g k no wh n ke ⟨#[97]⟩ val fl ∧ Below B w w' ∧ ∀ q, q < w.heap.size → q ≠ g → w'.heap[q]? = w.heap[q]? := by
  have HA := Aside0.mk h; have HG := Aside0.mk (blk_lt h); have HB := Aside0.mk hB; clear h hB
  go_enter Tryz.func43, Tryz.ntmps43
  go_wp2_with fail
  refine (text_a _).mono ?_
  rintro e w1 ⟨rfl, hb⟩
  have c_ : w1.cell? ⟨g, 5, none⟩ = _ := blk_cell ((hb.block g HG.out).trans HA.out) 5
  have f_ : w1.frozen? ⟨g, 5, none⟩ = false := Lib.frozen_of_heap ((hb.block g HG.out).trans HA.out) 5
  have HB1 := Aside0.mk hb; clear hb
  go_wp2_with fail
  go_ret
  refine ⟨rfl, ?_, ?_, fun q hq hne => (Below.heap_setCell _ _ _ _ hne).trans (HB1.out.block q hq)⟩
  · exact (blk_set ((HB1.out.block g HG.out).trans HA.out) 5 _).trans (by simp)
  · exact (HB1.out.mono (Nat.le_trans HB.out (Nat.le_of_lt HG.out))).setCell (p := ⟨g, 5, none⟩) HB.out _
set_option maxHeartbeats 16000000 in
set_option maxRecDepth 100000 in
theorem read_val (B g : Nat) (k no wh n ke : Int) (key val : ByteArray) (fl : Bool) (w : World) (h : IsAct w g k no wh n ke key val fl) (hB : B ≤ g) :
    Calls Tryz.prog 43 #[.pointer (some ⟨g, 0, none⟩), .int .i64 6, .string ⟨#[61, 37, 50, 48]⟩] w fun e w' => e = .returned (.int .i64 0) ∧ IsAct w' g k no wh n ke key ⟨#[32]⟩ fl ∧ Below B w w' ∧ ∀ q, q < w.heap.size → q ≠ g → w'.heap[q]? = w.heap[q]? := by
  have HA := Aside0.mk h; have HG := Aside0.mk (blk_lt h); have HB := Aside0.mk hB; clear h hB
  go_enter Tryz.func43, Tryz.ntmps43
  go_wp2_with fail
  refine (text_sp _).mono ?_
  rintro e w1 ⟨rfl, hb⟩
  have c_ : w1.cell? ⟨g, 6, none⟩ = _ := blk_cell ((hb.block g HG.out).trans HA.out) 6
  have f_ : w1.frozen? ⟨g, 6, none⟩ = false := Lib.frozen_of_heap ((hb.block g HG.out).trans HA.out) 6
  have HB1 := Aside0.mk hb; clear hb
  go_wp2_with fail
  go_ret
  refine ⟨rfl, ?_, ?_, fun q hq hne => (Below.heap_setCell _ _ _ _ hne).trans (HB1.out.block q hq)⟩
  · exact (blk_set ((HB1.out.block g HG.out).trans HA.out) 6 _).trans (by simp)
  · exact (HB1.out.mono (Nat.le_trans HB.out (Nat.le_of_lt HG.out))).setCell (p := ⟨g, 6, none⟩) HB.out _
def spS (j : Int) : ByteArray := if j = 0 then ⟨#[112, 117, 116, 32, 48, 32, 61, 97, 32, 61, 37, 50, 48]⟩ else if j = 1 then ⟨#[48, 32, 61, 97, 32, 61, 37, 50, 48]⟩ else if j = 2 then ⟨#[61, 97, 32, 61, 37, 50, 48]⟩ else ⟨#[61, 37, 50, 48]⟩
def spC (j : Int) : Array Value := if j = 0 then #[.string ⟨#[]⟩, .string ⟨#[]⟩, .string ⟨#[]⟩, .string ⟨#[]⟩] else if j = 1 then #[.string ⟨#[112, 117, 116]⟩, .string ⟨#[]⟩, .string ⟨#[]⟩, .string ⟨#[]⟩] else if j = 2 then #[.string ⟨#[112, 117, 116]⟩, .string ⟨#[48]⟩, .string ⟨#[]⟩, .string ⟨#[]⟩] else #[.string ⟨#[112, 117, 116]⟩, .string ⟨#[48]⟩, .string ⟨#[61, 97]⟩, .string ⟨#[]⟩]
set_option maxHeartbeats 16000000 in
set_option maxRecDepth 100000 in
theorem split_ (w : World) : Calls Tryz.prog 40 #[.string ⟨#[112, 117, 116, 32, 48, 32, 61, 97, 32, 61, 37, 50, 48]⟩, .string ⟨#[32]⟩] w fun e w' => ∃ g, e = .returned (.slice (some ⟨g, 0, none⟩) 4 4) ∧ w'.heap[g]? = some (.cells #[.string ⟨#[112, 117, 116]⟩, .string ⟨#[48]⟩, .string ⟨#[61, 97]⟩, .string ⟨#[61, 37, 50, 48]⟩] 9 (0, 0)) ∧ w.heap.size ≤ g ∧ Below w.heap.size w w' := by
  have HB := Aside0.mk (Below.refl w.heap.size w)
  have HSP : Calls Tryz.prog 65 #[.string ⟨#[112, 117, 116, 32, 48, 32, 61, 97, 32, 61, 37, 50, 48]⟩, .string ⟨#[32]⟩, .int .i64 0, .int .i64 (-1)] w fun e w' => ∃ g, e = .returned (.slice (some ⟨g, 0, none⟩) 4 4) ∧ w'.heap[g]? = some (.cells #[.string ⟨#[112, 117, 116]⟩, .string ⟨#[48]⟩, .string ⟨#[61, 97]⟩, .string ⟨#[61, 37, 50, 48]⟩] 9 (0, 0)) ∧ w.heap.size ≤ g ∧ Below w.heap.size w w' := by
    have hmin : min (4 : Int) 14 = 4 := by decide
    have hmk : ∀ W : World, (Instr.makeSlice 70 (.int .i64 4) (.int .i64 4)).run Tryz.prog W = .ok (.slice (some ⟨W.heap.size, 0, none⟩) 4 4) (W.alloc (.cells (spC 0) 9)) := fun W => (print_make_of (P := Tryz.prog) 70 9 (.string ⟨#[]⟩) 16 Tryz.underlying70 info_s rfl (by decide) 4 (by decide) W).trans (by rw [show madeCells #[Value.string ⟨#[]⟩] 4 = spC 0 from by kernel_rfl])
    go_enter Tryz.func65, Tryz.ntmps65
    go_wp2_with fail
    refine (Hook.strings_Count.calls _ ⟨#[32]⟩ 3 _ (by decide)).mono ?_
    rintro e w1 ⟨rfl, ⟨nd, rfl⟩⟩
    have HB1 := Aside0.mk (pw_below_drewN HB.out nd)
    have hsz : (w.drewN nd).heap.size = w.heap.size := rfl
    generalize w.drewN nd = w1 at HB1 hsz ⊢
    obtain ⟨g, hg⟩ : ∃ g, g = w1.heap.size := ⟨_, rfl⟩
    have HQ := Aside0.mk (Nat.le_of_eq (hsz.symm.trans hg.symm)); have HC := Aside0.mk (blk_new w1 (.cells (spC 0) 9)); have HB2 := Aside0.mk (below_alloc HB1.out (.cells (spC 0) 9))
    rw [← hg] at HC
    clear hsz HB1 HB
    obtain ⟨W1, hW1⟩ : ∃ W1, W1 = w1.alloc (.cells (spC 0) 9) := ⟨_, rfl⟩
    rw [← hW1] at HC HB2
    have HG := Aside0.mk hg; have HW := Aside0.mk hW1; clear hg hW1
    go_upto_block 0 with fail
    rw [← HG.out, ← HW.out]
    clear hmk hmin HG HW
    go_wp2_with fail
    go_loopg [0, 10] 3 (fun kq v0 v10 w' => ∃ j : Int, v10 = .int .i64 j ∧ v0 = .string (spS j) ∧ Aside0 (j + kq = 3 ∧ 0 ≤ j) ∧ Aside0 (w'.heap[g]? = some (.cells (spC j) 9 (0, 0))) ∧ Aside0 (Below w.heap.size w w'))
    case atStart => exact ⟨0, rfl, rfl, ⟨by omega, by omega⟩, HC, HB2⟩
    case round =>
      clear HC HB2
      obtain ⟨j, rfl, rfl, HN, HC, HB⟩ := hrel
      rcases (show j = 0 ∨ j = 1 ∨ j = 2 ∨ j = 3 by have := HN.out; omega) with rfl | rfl | rfl | rfl
      · rw [show spS 0 = ⟨#[112, 117, 116, 32, 48, 32, 61, 97, 32, 61, 37, 50, 48]⟩ from by kernel_rfl]
        go_wp2_with fail
        refine (Hook.strings_Index.calls ⟨#[112, 117, 116, 32, 48, 32, 61, 97, 32, 61, 37, 50, 48]⟩ ⟨#[32]⟩ 3 _ (by decide)).mono ?_
        rintro e w3 ⟨rfl, ⟨nd, rfl⟩⟩
        have hC : (wr.drewN nd).heap[g]? = some (.cells (spC 0) 9 (0, 0)) := HC.out
        have HB3 := Aside0.mk (pw_below_drewN HB.out nd); clear HC HB
        generalize wr.drewN nd = w3 at hC HB3 ⊢
        have hx : w3.cell? ⟨g, 0, none⟩ = some (.string ⟨#[]⟩) := blk_cell hC 0
        have hf : w3.frozen? ⟨g, 0, none⟩ = false := Lib.frozen_of_heap hC 0
        have HX := Aside0.mk ((blk_set hC 0 (.string ⟨#[112, 117, 116]⟩)).trans (congrArg (fun c => some (Obj.cells c 9 (0, 0))) (show _ = spC (0 + 1) from by kernel_rfl)))
        clear hC
        go_wp2_with fail
        cases gk with
        | zero => exact absurd HN.out.1 (by omega)
        | succ k1 =>
          go_roundg k1
          case measure => omega
          case rel => exact ⟨0 + 1, by first | rfl | decide, by kernel_rfl, ⟨by have := HN.out; omega, by omega⟩, ⟨HX.out⟩, ⟨HB3.out.setCell (p := ⟨g, 0, none⟩) HQ.out _⟩⟩
      · rw [show spS 1 = ⟨#[48, 32, 61, 97, 32, 61, 37, 50, 48]⟩ from by kernel_rfl]
        go_wp2_with fail
        refine (Hook.strings_Index.calls ⟨#[48, 32, 61, 97, 32, 61, 37, 50, 48]⟩ ⟨#[32]⟩ 1 _ (by decide)).mono ?_
        rintro e w3 ⟨rfl, ⟨nd, rfl⟩⟩
        have hC : (wr.drewN nd).heap[g]? = some (.cells (spC 1) 9 (0, 0)) := HC.out
        have HB3 := Aside0.mk (pw_below_drewN HB.out nd); clear HC HB
        generalize wr.drewN nd = w3 at hC HB3 ⊢
        have hx : w3.cell? ⟨g, 1, none⟩ = some (.string ⟨#[]⟩) := blk_cell hC 1
        have hf : w3.frozen? ⟨g, 1, none⟩ = false := Lib.frozen_of_heap hC 1
        have HX := Aside0.mk ((blk_set hC 1 (.string ⟨#[48]⟩)).trans (congrArg (fun c => some (Obj.cells c 9 (0, 0))) (show _ = spC (1 + 1) from by kernel_rfl)))
        clear hC
        go_wp2_with fail
        cases gk with
        | zero => exact absurd HN.out.1 (by omega)
        | succ k1 =>
          go_roundg k1
          case measure => omega
          case rel => exact ⟨1 + 1, by first | rfl | decide, by kernel_rfl, ⟨by have := HN.out; omega, by omega⟩, ⟨HX.out⟩, ⟨HB3.out.setCell (p := ⟨g, 1, none⟩) HQ.out _⟩⟩
      · rw [show spS 2 = ⟨#[61, 97, 32, 61, 37, 50, 48]⟩ from by kernel_rfl]
        go_wp2_with fail
        refine (Hook.strings_Index.calls ⟨#[61, 97, 32, 61, 37, 50, 48]⟩ ⟨#[32]⟩ 2 _ (by decide)).mono ?_
        rintro e w3 ⟨rfl, ⟨nd, rfl⟩⟩
        have hC : (wr.drewN nd).heap[g]? = some (.cells (spC 2) 9 (0, 0)) := HC.out
        have HB3 := Aside0.mk (pw_below_drewN HB.out nd); clear HC HB
        generalize wr.drewN nd = w3 at hC HB3 ⊢
        have hx : w3.cell? ⟨g, 2, none⟩ = some (.string ⟨#[]⟩) := blk_cell hC 2
        have hf : w3.frozen? ⟨g, 2, none⟩ = false := Lib.frozen_of_heap hC 2
        have HX := Aside0.mk ((blk_set hC 2 (.string ⟨#[61, 97]⟩)).trans (congrArg (fun c => some (Obj.cells c 9 (0, 0))) (show _ = spC (2 + 1) from by kernel_rfl)))
        clear hC
        go_wp2_with fail
        cases gk with
        | zero => exact absurd HN.out.1 (by omega)
        | succ k1 =>
          go_roundg k1
          case measure => omega
          case rel => exact ⟨2 + 1, by first | rfl | decide, by kernel_rfl, ⟨by have := HN.out; omega, by omega⟩, ⟨HX.out⟩, ⟨HB3.out.setCell (p := ⟨g, 2, none⟩) HQ.out _⟩⟩
      · rw [show spS 3 = ⟨#[61, 37, 50, 48]⟩ from by kernel_rfl]
        have hx : wr.cell? ⟨g, 3, none⟩ = some (.string ⟨#[]⟩) := blk_cell HC.out 3
        have hf : wr.frozen? ⟨g, 3, none⟩ = false := Lib.frozen_of_heap HC.out 3
        have HX := Aside0.mk ((blk_set HC.out 3 (.string ⟨#[61, 37, 50, 48]⟩)).trans (congrArg (fun c => some (Obj.cells c 9 (0, 0))) (show _ = #[.string ⟨#[112, 117, 116]⟩, .string ⟨#[48]⟩, .string ⟨#[61, 97]⟩, .string ⟨#[61, 37, 50, 48]⟩] from by kernel_rfl)))
        go_wp2_with fail
        go_ret
        exact ⟨g, by first | rfl | decide, HX.out, HQ.out, HB.out.setCell (p := ⟨g, 3, none⟩) HQ.out _⟩
  go_enter Tryz.func40, Tryz.ntmps40
  go_wp2_with fail
  refine HSP.mono ?_
  rintro e w1 ⟨g, rfl, h1, h2, h3⟩
  have H1 := Aside0.mk (And.intro h1 (And.intro h2 h3)); clear h1 h2 h3
  go_wp2_with fail
  go_ret
  exact ⟨g, rfl, H1.out.1, H1.out.2.1, H1.out.2.2⟩
def acK (j : Int) : ByteArray := if j ≤ 1 then ⟨#[]⟩ else ⟨#[97]⟩
def acV (j : Int) : ByteArray := if j ≤ 2 then ⟨#[]⟩ else ⟨#[32]⟩
set_option maxHeartbeats 16000000 in
set_option maxRecDepth 100000 in
theorem parse_ (w : World) : Calls Tryz.prog 22 #[.string ⟨#[112, 117, 116, 32, 48, 32, 61, 97, 32, 61, 37, 50, 48]⟩] w fun e w' => e = .returned (.tuple #[.agg #[.int .i64 3, .int .i64 0, .int .i64 0, .int .i64 0, .int .u64 0, .string ⟨#[97]⟩, .string ⟨#[32]⟩, .bool false], .int .i64 0]) ∧ Below w.heap.size w w' := by
  obtain ⟨gz, hgz⟩ : ∃ gz, gz = w.heap.size := ⟨_, rfl⟩
  obtain ⟨W1, hW1⟩ : ∃ W1, W1 = w.alloc (.cells #[.int .i64 0, .int .i64 0, .int .i64 0, .int .i64 0, .int .u64 0, .string ⟨#[]⟩, .string ⟨#[]⟩, .bool false] 67) := ⟨_, rfl⟩
  have HZ : Aside0 (W1.heap[gz]? = some (.cells #[.int .i64 0, .int .i64 0, .int .i64 0, .int .i64 0, .int .u64 0, .string ⟨#[]⟩, .string ⟨#[]⟩, .bool false] 67 (0, 0))) := ⟨by rw [hW1, hgz]; exact blk_new w _⟩
  have HB : Aside0 (Below w.heap.size w W1) := ⟨by rw [hW1]; exact below_alloc (Below.refl _ _) _⟩
  have HQ := Aside0.mk (Nat.le_of_eq hgz.symm)
  go_enter Tryz.func22, Tryz.ntmps22
  go_upto_region 1 with fail
  rw [← hW1, ← hgz]
  clear hW1 hgz
  go_wp2_with fail
  refine (split_ W1).mono ?_
  rintro e w2 ⟨g, rfl, h1, h2, h3⟩
  have HZ2 := Aside0.mk ((h3.block gz (blk_lt HZ.out)).trans HZ.out); have HB2 := Aside0.mk (below_step HB.out h3)
  have HN2 : Aside0 (gz ≠ g) := ⟨by have := blk_lt HZ.out; omega⟩
  have HW2 := Aside0.mk h1
  have c0 : w2.cell? ⟨g, 0, none⟩ = some (.string ⟨#[112, 117, 116]⟩) := blk_cell h1 0
  clear h1 h2 h3 HZ HB
  go_wp2_with fail
  refine (kind_put w2).mono ?_
  rintro e w3 ⟨rfl, hb⟩
  have HZ3 := Aside0.mk ((hb.block gz (blk_lt HZ2.out)).trans HZ2.out); have HW3 := Aside0.mk ((hb.block g (blk_lt HW2.out)).trans HW2.out); have HB3 := Aside0.mk (below_step HB2.out hb); clear hb HZ2 HW2 HB2 c0
  obtain ⟨ga, hga⟩ : ∃ ga, ga = w3.heap.size := ⟨_, rfl⟩
  obtain ⟨W4, hW4⟩ : ∃ W4, W4 = w3.alloc (.cells #[.int .i64 3, .int .i64 0, .int .i64 0, .int .i64 0, .int .u64 0, .string ⟨#[]⟩, .string ⟨#[]⟩, .bool false] 67) := ⟨_, rfl⟩
  have hb : Below w3.heap.size w3 W4 := by rw [hW4]; exact below_alloc (Below.refl _ _) _
  have HA4 : Aside0 (IsAct W4 ga 3 0 0 0 0 (acK 0) (acV 0) false) := ⟨by rw [hW4, hga]; exact blk_new w3 _⟩
  have HZ4 := Aside0.mk ((hb.block gz (blk_lt HZ3.out)).trans HZ3.out); have HW4 := Aside0.mk ((hb.block g (blk_lt HW3.out)).trans HW3.out); have HB4 := Aside0.mk (below_step HB3.out hb)
  have HN4 : Aside0 (gz ≠ ga ∧ g ≠ ga ∧ w.heap.size ≤ ga) := ⟨by have := blk_lt HZ3.out; have := blk_lt HW3.out; have := HB3.out.size; omega⟩
  clear hb HZ3 HW3 HB3
  go_upto_region 3 with fail
  rw [← hga, ← hW4]
  clear hga hW4
  have c1 : W4.cell? ⟨ga, 0, none⟩ = some (.int .i64 3) := blk_cell HA4.out 0
  go_wp2_with fail
  refine (form_3 W4).mono ?_
  rintro e w5 ⟨rfl, h5⟩
  have hb : Below W4.heap.size W4 w5 := by rw [h5]; exact below_alloc (Below.refl _ _) _
  obtain ⟨gf, hgf⟩ : ∃ gf, gf = W4.heap.size := ⟨_, rfl⟩
  have HF5 : Aside0 (w5.heap[gf]? = some (.cells #[.int .i64 1, .int .i64 5, .int .i64 6] 3 (0, 0))) := ⟨by rw [h5, hgf]; exact blk_new W4 _⟩
  have HA5 : Aside0 (IsAct w5 ga 3 0 0 0 0 (acK 0) (acV 0) false) := ⟨(hb.block ga (blk_lt HA4.out)).trans HA4.out⟩
  have HZ5 := Aside0.mk ((hb.block gz (blk_lt HZ4.out)).trans HZ4.out); have HW5 := Aside0.mk ((hb.block g (blk_lt HW4.out)).trans HW4.out); have HB5 := Aside0.mk (below_step HB4.out hb)
  have HN5 : Aside0 (gf ≠ ga) := ⟨by have := blk_lt HA4.out; omega⟩
  have c2 : w5.cell? ⟨ga, 0, none⟩ = some (.int .i64 3) := blk_cell HA5.out 0
  rw [← hgf]
  clear hb h5 hgf c1 HA4 HZ4 HW4 HB4
  go_wp2_with fail
  clear c2
  go_loopg [38] 3 (fun kq v38 w' => ∃ j : Int, v38 = .int .i64 j ∧ Aside0 (j + kq = 3 ∧ 0 ≤ j) ∧ Aside0 (IsAct w' ga 3 0 0 0 0 (acK j) (acV j) false) ∧ Aside0 (w'.heap[gz]? = some (.cells #[.int .i64 0, .int .i64 0, .int .i64 0, .int .i64 0, .int .u64 0, .string ⟨#[]⟩, .string ⟨#[]⟩, .bool false] 67 (0, 0))) ∧ Aside0 (w'.heap[g]? = some (.cells #[.string ⟨#[112, 117, 116]⟩, .string ⟨#[48]⟩, .string ⟨#[61, 97]⟩, .string ⟨#[61, 37, 50, 48]⟩] 9 (0, 0))) ∧ Aside0 (w'.heap[gf]? = some (.cells #[.int .i64 1, .int .i64 5, .int .i64 6] 3 (0, 0))) ∧ Aside0 (Below w.heap.size w w'))
  case atStart => exact ⟨0, rfl, ⟨by omega, by omega⟩, HA5, HZ5, HW5, HF5, HB5⟩
  case round =>
    clear HA5 HZ5 HW5 HF5 HB5
    obtain ⟨j, rfl, HN, HA, HZ, HW, HF, HB⟩ := hrel
    rcases (show j = 0 ∨ j = 1 ∨ j = 2 ∨ j = 3 by have := HN.out; omega) with rfl | rfl | rfl | rfl
    · have x_ : wr.cell? ⟨gf, 0, none⟩ = some (.int .i64 1) := blk_cell HF.out 0
      have y_ : wr.cell? ⟨g, 1, none⟩ = some (.string ⟨#[48]⟩) := blk_cell HW.out 1
      go_wp2_with fail
      refine (read_who w.heap.size ga 3 0 0 0 0 _ _ false wr HA.out HN4.out.2.2).mono ?_
      rintro e w6 ⟨rfl, ha, hb, hk⟩
      have HA6 : Aside0 (IsAct w6 ga 3 0 0 0 0 (acK 1) (acV 1) false) := ⟨ha⟩
      have HZ6 := Aside0.mk ((hk gz (blk_lt HZ.out) HN4.out.1).trans HZ.out); have HW6 := Aside0.mk ((hk g (blk_lt HW.out) HN4.out.2.1).trans HW.out); have HF6 := Aside0.mk ((hk gf (blk_lt HF.out) HN5.out).trans HF.out); have HB6 := Aside0.mk (HB.out.trans hb); clear ha hb hk HA HZ HW HF HB x_ y_
      go_wp2_with fail
      cases gk with
      | zero => exact absurd HN.out.1 (by omega)
      | succ k1 =>
        go_roundg k1
        case measure => omega
        case rel => exact ⟨1, by first | rfl | decide, ⟨by have := HN.out; omega, by omega⟩, HA6, HZ6, HW6, HF6, HB6⟩
    · have x_ : wr.cell? ⟨gf, 1, none⟩ = some (.int .i64 5) := blk_cell HF.out 1
      have y_ : wr.cell? ⟨g, 2, none⟩ = some (.string ⟨#[61, 97]⟩) := blk_cell HW.out 2
      go_wp2_with fail
      refine (read_key w.heap.size ga 3 0 0 0 0 _ _ false wr HA.out HN4.out.2.2).mono ?_
      rintro e w6 ⟨rfl, ha, hb, hk⟩
      have HA6 : Aside0 (IsAct w6 ga 3 0 0 0 0 (acK 2) (acV 2) false) := ⟨ha⟩
      have HZ6 := Aside0.mk ((hk gz (blk_lt HZ.out) HN4.out.1).trans HZ.out); have HW6 := Aside0.mk ((hk g (blk_lt HW.out) HN4.out.2.1).trans HW.out); have HF6 := Aside0.mk ((hk gf (blk_lt HF.out) HN5.out).trans HF.out); have HB6 := Aside0.mk (HB.out.trans hb); clear ha hb hk HA HZ HW HF HB x_ y_
      go_wp2_with fail
      cases gk with
      | zero => exact absurd HN.out.1 (by omega)
      | succ k1 =>
        go_roundg k1
        case measure => omega
        case rel => exact ⟨2, by first | rfl | decide, ⟨by have := HN.out; omega, by omega⟩, HA6, HZ6, HW6, HF6, HB6⟩
    · have x_ : wr.cell? ⟨gf, 2, none⟩ = some (.int .i64 6) := blk_cell HF.out 2
      have y_ : wr.cell? ⟨g, 3, none⟩ = some (.string ⟨#[61, 37, 50, 48]⟩) := blk_cell HW.out 3
      go_wp2_with fail
      refine (read_val w.heap.size ga 3 0 0 0 0 _ _ false wr HA.out HN4.out.2.2).mono ?_
      rintro e w6 ⟨rfl, ha, hb, hk⟩
      have HA6 : Aside0 (IsAct w6 ga 3 0 0 0 0 (acK 3) (acV 3) false) := ⟨ha⟩
      have HZ6 := Aside0.mk ((hk gz (blk_lt HZ.out) HN4.out.1).trans HZ.out); have HW6 := Aside0.mk ((hk g (blk_lt HW.out) HN4.out.2.1).trans HW.out); have HF6 := Aside0.mk ((hk gf (blk_lt HF.out) HN5.out).trans HF.out); have HB6 := Aside0.mk (HB.out.trans hb); clear ha hb hk HA HZ HW HF HB x_ y_
      go_wp2_with fail
      cases gk with
      | zero => exact absurd HN.out.1 (by omega)
      | succ k1 =>
        go_roundg k1
        case measure => omega
        case rel => exact ⟨3, by first | rfl | decide, ⟨by have := HN.out; omega, by omega⟩, HA6, HZ6, HW6, HF6, HB6⟩
    · obtain ⟨c0, f0, c1, f1, c2, f2, c3, f3, c4, f4, c5, f5, c6, f6, c7, f7⟩ : wr.cell? ⟨ga, 0, none⟩ = some (.int .i64 3) ∧ wr.frozen? ⟨ga, 0, none⟩ = false ∧ wr.cell? ⟨ga, 1, none⟩ = some (.int .i64 0) ∧ wr.frozen? ⟨ga, 1, none⟩ = false ∧ wr.cell? ⟨ga, 2, none⟩ = some (.int .i64 0) ∧ wr.frozen? ⟨ga, 2, none⟩ = false ∧ wr.cell? ⟨ga, 3, none⟩ = some (.int .i64 0) ∧ wr.frozen? ⟨ga, 3, none⟩ = false ∧ wr.cell? ⟨ga, 4, none⟩ = some (.int .u64 0) ∧ wr.frozen? ⟨ga, 4, none⟩ = false ∧ wr.cell? ⟨ga, 5, none⟩ = some (.string ⟨#[97]⟩) ∧ wr.frozen? ⟨ga, 5, none⟩ = false ∧ wr.cell? ⟨ga, 6, none⟩ = some (.string ⟨#[32]⟩) ∧ wr.frozen? ⟨ga, 6, none⟩ = false ∧ wr.cell? ⟨ga, 7, none⟩ = some (.bool false) ∧ wr.frozen? ⟨ga, 7, none⟩ = false := ⟨blk_cell HA.out 0, Lib.frozen_of_heap HA.out 0, blk_cell HA.out 1, Lib.frozen_of_heap HA.out 1, blk_cell HA.out 2, Lib.frozen_of_heap HA.out 2, blk_cell HA.out 3, Lib.frozen_of_heap HA.out 3, blk_cell HA.out 4, Lib.frozen_of_heap HA.out 4, blk_cell HA.out 5, Lib.frozen_of_heap HA.out 5, blk_cell HA.out 6, Lib.frozen_of_heap HA.out 6, blk_cell HA.out 7, Lib.frozen_of_heap HA.out 7⟩
      obtain ⟨d0, e0, d1, e1, d2, e2, d3, e3, d4, e4, d5, e5, d6, e6, d7, e7⟩ : wr.cell? ⟨gz, 0, none⟩ = some (.int .i64 0) ∧ wr.frozen? ⟨gz, 0, none⟩ = false ∧ wr.cell? ⟨gz, 1, none⟩ = some (.int .i64 0) ∧ wr.frozen? ⟨gz, 1, none⟩ = false ∧ wr.cell? ⟨gz, 2, none⟩ = some (.int .i64 0) ∧ wr.frozen? ⟨gz, 2, none⟩ = false ∧ wr.cell? ⟨gz, 3, none⟩ = some (.int .i64 0) ∧ wr.frozen? ⟨gz, 3, none⟩ = false ∧ wr.cell? ⟨gz, 4, none⟩ = some (.int .u64 0) ∧ wr.frozen? ⟨gz, 4, none⟩ = false ∧ wr.cell? ⟨gz, 5, none⟩ = some (.string ⟨#[]⟩) ∧ wr.frozen? ⟨gz, 5, none⟩ = false ∧ wr.cell? ⟨gz, 6, none⟩ = some (.string ⟨#[]⟩) ∧ wr.frozen? ⟨gz, 6, none⟩ = false ∧ wr.cell? ⟨gz, 7, none⟩ = some (.bool false) ∧ wr.frozen? ⟨gz, 7, none⟩ = false := ⟨blk_cell HZ.out 0, Lib.frozen_of_heap HZ.out 0, blk_cell HZ.out 1, Lib.frozen_of_heap HZ.out 1, blk_cell HZ.out 2, Lib.frozen_of_heap HZ.out 2, blk_cell HZ.out 3, Lib.frozen_of_heap HZ.out 3, blk_cell HZ.out 4, Lib.frozen_of_heap HZ.out 4, blk_cell HZ.out 5, Lib.frozen_of_heap HZ.out 5, blk_cell HZ.out 6, Lib.frozen_of_heap HZ.out 6, blk_cell HZ.out 7, Lib.frozen_of_heap HZ.out 7⟩
      go_wp2_with fail
      have s0 := blk_set HZ.out 0 (.int .i64 3); have s1 := blk_set s0 1 (.int .i64 0); have s2 := blk_set s1 2 (.int .i64 0); have s3 := blk_set s2 3 (.int .i64 0); have s4 := blk_set s3 4 (.int .u64 0)
      have s5 := blk_set s4 5 (.string ⟨#[97]⟩)
      have s6 := blk_set s5 6 (.string ⟨#[32]⟩)
      have s7 := blk_set s6 7 (.bool false)
      refine bodyPost_ret (v := .tuple #[.agg #[.int .i64 3, .int .i64 0, .int .i64 0, .int .i64 0, .int .u64 0, .string ⟨#[97]⟩, .string ⟨#[32]⟩, .bool false], .int .i64 0]) ((results_ct rfl _ _ gz 67 #[.int .i64 3, .int .i64 0, .int .i64 0, .int .i64 0, .int .u64 0, .string ⟨#[97]⟩, .string ⟨#[32]⟩, .bool false] (0, 0) _ rfl (s7.trans (congrArg (fun c => some (Obj.cells c 67 (0, 0))) (by simp only [List.setIfInBounds_toArray, List.set_cons_zero, List.set_cons_succ]))) Tryz.underlying67 rfl (by kernel_rfl)).trans rfl) rfl ⟨rfl, ?_⟩
      exact (Below.setCell (p := ⟨gz, 7, none⟩) (Below.setCell (p := ⟨gz, 6, none⟩) (Below.setCell (p := ⟨gz, 5, none⟩) (Below.setCell (p := ⟨gz, 4, none⟩) (Below.setCell (p := ⟨gz, 3, none⟩) (Below.setCell (p := ⟨gz, 2, none⟩) (Below.setCell (p := ⟨gz, 1, none⟩) (Below.setCell (p := ⟨gz, 0, none⟩) HB.out HQ.out _) HQ.out _) HQ.out _) HQ.out _) HQ.out _) HQ.out _) HQ.out _) HQ.out _)
set_option maxHeartbeats 16000000 in
set_option maxRecDepth 100000 in
theorem awake_ (w : World) : Calls Tryz.prog 9 #[] w fun e w' => e = .returned (.bool true) ∧ Below w.heap.size w w' := by
  go_enter Tryz.func9, Tryz.ntmps9
  go_wp2_with fail
  refine (parse_ w).mono ?_
  rintro e w1 ⟨rfl, hb⟩
  have HB := Aside0.mk hb; clear hb
  go_wp2_with fail
  go_ret
  exact ⟨rfl, below_alloc HB.out _⟩
end Go.Proofs.YteoebfiacnploaaGreatDoor.HRec
