/- Texts of this proof, put together: SayJ, SayH, SayR. They prove no statement. -/
import Derived.Test.YteoebfiacnploaaGreatDoorQSayL
import Derived.Test.YteoebfiacnploaaGreatDoorQG5
namespace Go.Proofs.YteoebfiacnploaaGreatDoor.HRec
open Go.RowKit Go.Proofs.YteoebfiacnploaaGreatDoorW.PrintWords Go.Proofs.YteoebfiacnploaaGreatDoorW.PrintLast Go.Proofs.YteoebfiacnploaaGreatDoorW.PrintMore Go.Proofs.YteoebfiacnploaaGreatDoor.SayPure
set_option linter.unusedVariables false
set_option linter.unusedSimpArgs false
def joinT (acc : ByteArray) (ws : List ByteArray) : ByteArray := ws.foldl (fun a w => (a ++ ⟨#[32]⟩) ++ w) acc
theorem join_append (xs ys : List ByteArray) (acc : ByteArray) : joinT acc (xs ++ ys) = joinT (joinT acc xs) ys := by
  unfold joinT
  rw [List.foldl_append]
theorem app_list (a b : ByteArray) : (a ++ b).data.toList = a.data.toList ++ b.data.toList := by simp
theorem join_list : ∀ (ws : List ByteArray) (acc : ByteArray), (joinT acc ws).data.toList = acc.data.toList ++ (ws.map fun w => w.data.toList).flatMap (fun q => (32 : UInt8) :: q) := by
  intro ws
  induction ws with
  | nil => intro acc; simp [joinT]
  | cons w ws ih =>
    intro acc
    have := ih ((acc ++ ⟨#[32]⟩) ++ w)
    show (joinT ((acc ++ ⟨#[32]⟩) ++ w) ws).data.toList = _
    rw [this, app_list, app_list, List.map_cons, List.flatMap_cons]
    simp
theorem join_size : ∀ (ws : List ByteArray) (acc : ByteArray) (m : Nat), (∀ w ∈ ws, w.size ≤ m) → (joinT acc ws).size ≤ acc.size + (m + 1) * ws.length := by
  intro ws
  induction ws with
  | nil => intro acc m _; show acc.size ≤ _; simp
  | cons w ws ih =>
    intro acc m h
    have h1 := ih ((acc ++ ⟨#[32]⟩) ++ w) m (fun x hx => h x (by simp [hx]))
    have h2 := h w (by simp)
    rw [app_size, app_size, show (⟨#[32]⟩ : ByteArray).size = 1 from rfl] at h1
    show (joinT ((acc ++ ⟨#[32]⟩) ++ w) ws).size ≤ _
    rw [List.length_cons, Nat.mul_succ]
    omega
theorem join_f (w : ByteArray) (r : List ByteArray) (hs : (joinT w r).size ≤ 140737488355328) (hr : r.length ≤ 1000000) : Hook.strings_Join.f (w :: r) ⟨#[32]⟩ = some (joinT w r) := by
  have hj : Lib.join ((w :: r).map (·.data.toList)) (⟨#[32]⟩ : ByteArray).data.toList = (joinT w r).data.toList := by
    rw [List.map_cons, Lib.join_cons, join_list]
    congr 1
  unfold Hook.strings_Join.f
  rw [hj, if_pos ⟨by rw [data_length]; exact hs, by rw [List.length_cons]; omega⟩]
theorem lit_split2 (s a b : ByteArray) (h : (⟨#[32]⟩ : ByteArray) ++ b ++ ⟨#[32]⟩ = a) : s ++ a = ((s ++ ⟨#[32]⟩) ++ b) ++ ⟨#[32]⟩ := by rw [← h, Hook.append_assoc', Hook.append_assoc', Hook.append_assoc']
def wT (y1 y2 : Int) : List ByteArray := if 0 < y1 then [⟨#[116, 120, 110]⟩, lowB y1, ⟨#[112, 114, 101, 118]⟩, lowB y2] else []
def wI (l : List S144) : List ByteArray := l.map fun m => lowB m.f0
def wA (l : List S36) : List ByteArray := l.flatMap fun a => [lowB a.f0, lowB a.f1]
def wC (p : Int) (k o n : ByteArray) (act : Int) : List ByteArray := [⟨#[112, 97, 103, 101]⟩, lowB p, mkW k] ++ (if act = 3 then [] else [⟨#[111, 108, 100]⟩, mkW o]) ++ (if act = 4 then [] else [⟨#[110, 101, 119]⟩, mkW n])
theorem stT_join (y1 y2 : Int) (s : ByteArray) : stT y1 y2 s = joinT s (wT y1 y2) := by
  unfold stT wT
  by_cases h : 0 < y1
  · rw [if_pos h, if_pos h, lit_split2 s ⟨#[32, 116, 120, 110, 32]⟩ ⟨#[116, 120, 110]⟩ (by decide +kernel), lit_split2 _ ⟨#[32, 112, 114, 101, 118, 32]⟩ ⟨#[112, 114, 101, 118]⟩ (by decide +kernel)]
    rfl
  · rw [if_neg h, if_neg h]
    rfl
theorem imgB_join (l : List S144) : ∀ s, imgB l s = joinT s (wI l) := by
  induction l with
  | nil => intro s; rfl
  | cons a l ih => intro s; exact ih _
theorem tabB_join (l : List S36) : ∀ s, tabB l s = joinT s (wA l) := by
  induction l with
  | nil => intro s; rfl
  | cons a l ih => intro s; exact ih _
theorem turn_join (p : Int) (k o n : ByteArray) (act : Int) (s : ByteArray) : s ++ turnB p k o n act = joinT s (wC p k o n act) := by
  have h1 : s ++ turnA p k = joinT s [⟨#[112, 97, 103, 101]⟩, lowB p, mkW k] := by
    unfold turnA
    rw [← Hook.append_assoc', ← Hook.append_assoc', ← Hook.append_assoc', lit_split2 s ⟨#[32, 112, 97, 103, 101, 32]⟩ ⟨#[112, 97, 103, 101]⟩ (by decide +kernel)]
    rfl
  have h2 : ∀ a, s ++ turnO o act a = joinT (s ++ a) (if act = 3 then [] else [⟨#[111, 108, 100]⟩, mkW o]) := by
    intro a
    unfold turnO
    by_cases h : act = 3
    · rw [if_pos h, if_pos h]; rfl
    · rw [if_neg h, if_neg h, ← Hook.append_assoc', ← Hook.append_assoc', lit_split2 _ ⟨#[32, 111, 108, 100, 32]⟩ ⟨#[111, 108, 100]⟩ (by decide +kernel)]
      rfl
  have h3 : ∀ a, s ++ turnN n act a = joinT (s ++ a) (if act = 4 then [] else [⟨#[110, 101, 119]⟩, mkW n]) := by
    intro a
    unfold turnN
    by_cases h : act = 4
    · rw [if_pos h, if_pos h]; rfl
    · rw [if_neg h, if_neg h, ← Hook.append_assoc', ← Hook.append_assoc', lit_split2 _ ⟨#[32, 110, 101, 119, 32]⟩ ⟨#[110, 101, 119]⟩ (by decide +kernel)]
      rfl
  unfold turnB wC
  rw [h3, h2, h1, join_append, join_append]
def wCk (y0 y3 : Int) (k o n : ByteArray) : List ByteArray := if 3 ≤ y0 ∧ y0 ≤ 5 then wC y3 k o n y0 else []
def wU (y0 y3 y4 y8 : Int) (k o n : ByteArray) : List ByteArray := if y0 = 6 then [⟨#[110, 101, 120, 116]⟩, lowB y8, nameB y4] ++ wC y3 k o n y4 else []
def wE (y0 y11 y12 : Int) : List ByteArray := if y0 = 10 then [lowB y11, lowB y12] else []
theorem stC_join (y0 y3 : Int) (k o n s : ByteArray) : stC y0 y3 k o n s = joinT s (wCk y0 y3 k o n) := by
  unfold stC wCk
  split
  · exact turn_join _ _ _ _ _ _
  · rfl
theorem stU_join (y0 y3 y4 y8 : Int) (k o n s : ByteArray) : stU y0 y3 y4 y8 k o n s = joinT s (wU y0 y3 y4 y8 k o n) := by
  unfold stU wU
  split
  · rw [turn_join, join_append, lit_split2 s ⟨#[32, 110, 101, 120, 116, 32]⟩ ⟨#[110, 101, 120, 116]⟩ (by decide +kernel)]
    rfl
  · rfl
theorem stE_join (y0 y11 y12 : Int) (s : ByteArray) : stE y0 y11 y12 s = joinT s (wE y0 y11 y12) := by
  unfold stE wE
  split <;> rfl
/-- The words of a record's line behind the first. -/
def lineW (y0 y1 y2 y3 y4 : Int) (k o n : ByteArray) (y8 : Int) (l9 : List S144) (l10 : List S36) (y11 y12 : Int) : List ByteArray :=
  [nameB y0] ++ wT y1 y2 ++ wI l9 ++ wA l10 ++ wCk y0 y3 k o n ++ wU y0 y3 y4 y8 k o n ++ wE y0 y11 y12
theorem lineB_join (y0 y1 y2 y3 y4 : Int) (k o n : ByteArray) (y8 : Int) (l9 : List S144) (l10 : List S36) (y11 y12 q : Int) :
    lineB (y0, y1, y2, y3, y4, k, o, n, y8, l9, l10, y11, y12) q = joinT (lowB q) (lineW y0 y1 y2 y3 y4 k o n y8 l9 l10 y11 y12) := by
  unfold lineB lineW
  dsimp only
  rw [stE_join, stU_join, stC_join, tabB_join, imgB_join, stT_join, join_append, join_append, join_append, join_append, join_append, join_append]
  rfl
end Go.Proofs.YteoebfiacnploaaGreatDoor.HRec
namespace Go.Proofs.YteoebfiacnploaaGreatDoor.SayH
open Go.RowKit Go.Proofs.YteoebfiacnploaaGreatDoorW.PrintWords Go.Proofs.YteoebfiacnploaaGreatDoor.HRec
def say_num.f (a0 : Int) : Option ByteArray := some (lowB a0)
theorem say_num.calls (a0 : Int) (r : ByteArray) (w : World) (h : say_num.f a0 = some r) : Calls Tryz.prog 35 #[.int .i64 a0] w fun e w' => e = .returned (.string r) ∧ Below w.heap.size w w' := by
  obtain rfl := Option.some.inj h
  exact say_num a0 w
def say_name.f (a0 : Int) : Option ByteArray := some (nameB a0)
theorem say_name.calls (a0 : Int) (r : ByteArray) (w : World) (h : say_name.f a0 = some r) : Calls Tryz.prog 36 #[.int .i64 a0] w fun e w' => e = .returned (.string r) ∧ Below w.heap.size w w' := by
  obtain rfl := Option.some.inj h
  exact say_name a0 w
def say_Word.f (a0 : ByteArray) : Option ByteArray := if a0.size ≤ 1000000 then some (mkW a0) else none
theorem say_Word.calls (a0 : ByteArray) (r : ByteArray) (w : World) (h : say_Word.f a0 = some r) : Calls Tryz.prog 63 #[.string a0] w fun e w' => e = .returned (.string r) ∧ Below w.heap.size w w' := by
  unfold say_Word.f at h
  split at h
  · rename_i hs
    obtain rfl := Option.some.inj h
    exact say_word a0 w hs
  · cases h
end Go.Proofs.YteoebfiacnploaaGreatDoor.SayH
namespace Go.Proofs.YteoebfiacnploaaGreatDoor.HRec
open Go.RowKit Go.Proofs.YteoebfiacnploaaGreatDoorW.PrintWords Go.Proofs.YteoebfiacnploaaGreatDoorW.PrintLast Go.Proofs.YteoebfiacnploaaGreatDoorW.PrintMore Go.Proofs.YteoebfiacnploaaGreatDoor.SayPure
set_option linter.unusedVariables false
set_option linter.unusedSimpArgs false
theorem info_s : (Tryz.prog.info? 9).map (fun i => (i.zero, i.size, i.bytes)) = some (some (.string ⟨#[]⟩), 1, 16) := by kernel_rfl
section
variable {ops : Array Oper} {rest : List Oper} {o : Oper} {a : Act} {Q : Exit → Act → World → Prop}
/-- Words appended to the call's own row of words. -/
theorem words_op {w0 W : World} (hgd : o.guard = none) (s x : Operand) (ho : o.op = .call { callee := .builtin .append, args := #[s, x], argTypes := #[70, 70] })
    (v : Value) (xs ys : List ByteArray) (A : Option Addr) (m c : Nat) (hs : a.eval s = v) (hx : a.eval x = .slice A m c)
    (HO : Kd.R Kd.string 9 W w0.heap.size (fun _ => True) v xs) (HR : Kd.C Kd.string W A m ys) (HB : Below w0.heap.size w0 W) (hl : (xs.length + m) * 16 ≤ 140737488355328)
    (h : ∀ v1 w1, Kd.R Kd.string 9 w1 w0.heap.size (fun _ => True) v1 (xs ++ ys) → Below w0.heap.size w0 w1 → wpList Tryz.prog ops Q rest (a.put o.dst v1) w1) :
    wpList Tryz.prog ops Q (o :: rest) a W :=
  Kd.R_append_rows Kd.string (w0 := w0) w0.heap.size hgd s x 70 9 (.string ⟨#[]⟩) 16 ho Tryz.underlying70 info_s rfl (by decide) (by omega) v xs ys A m c (fun _ => True) (fun _ => False) hs hx HO HR (fun _ _ h => h) (fun _ h => h.elim) (fun _ _ => trivial) HB (below_size HB) hl (fun v1 w1 h1 h2 _ _ => h v1 w1 h1 h2)
theorem words_step {w0 W : World} {Kc : Act → World → Prop} {N : Option Tmp} (hw : Region.wanted o (yielded ops a.tmps) = true) (hd : o.dst = N) (s x : Operand) (ho : o.op = .call { callee := .builtin .append, args := #[s, x], argTypes := #[70, 70] })
    (v : Value) (xs ys : List ByteArray) (A : Option Addr) (m c : Nat) (hs : a.eval s = v) (hx : a.eval x = .slice A m c)
    (HO : Kd.R Kd.string 9 W w0.heap.size (fun _ => True) v xs) (HR : Kd.C Kd.string W A m ys) (HB : Below w0.heap.size w0 W) (hl : (xs.length + m) * 16 ≤ 140737488355328)
    (h : ∀ v1 w1, Kd.R Kd.string 9 w1 w0.heap.size (fun _ => True) v1 (xs ++ ys) → Below w0.heap.size w0 w1 → Kc (a.put N v1) w1) :
    if Region.wanted o (yielded ops a.tmps) = true then Oper.wp Tryz.prog o a W Kc Q else Kc (a.put N undef) W := by
  subst hd
  exact Kd.R_append_rows_step Kd.string (w0 := w0) w0.heap.size hw s x 70 9 (.string ⟨#[]⟩) 16 ho Tryz.underlying70 info_s rfl (by decide) (by omega) v xs ys A m c (fun _ => True) (fun _ => False) hs hx HO HR (fun _ _ h => h) (fun _ h => h.elim) (fun _ _ => trivial) HB (below_size HB) hl (fun v1 w1 h1 h2 _ _ => h v1 w1 h1 h2)
theorem lit_step {w0 W : World} {Kc : Act → World → Prop} {N : Option Tmp} (hw : Region.wanted o (yielded ops a.tmps) = true) (hd : o.dst = N) {n : Tmp} (hn : N = some n) {xs : List ByteArray} {inner : List Value}
    (hrun : (execOp a.eval o).run Tryz.prog W = .ok (.value (.slice (some ⟨W.heap.size, 0, none⟩) xs.length xs.length)) (W.alloc (.cells inner.toArray 9)))
    (hrep : Reps (Kd.string.M W w0.heap.size (fun _ => True)) 1 xs inner) (HB : Below w0.heap.size w0 W) (hm : xs.length ≤ 9223372036854775807)
    (h : ∀ v1 w1, Kd.R Kd.string 9 w1 w0.heap.size (fun _ => True) v1 xs → Below w0.heap.size w0 w1 → Kc (a.put N v1) w1) :
    if Region.wanted o (yielded ops a.tmps) = true then Oper.wp Tryz.prog o a W Kc Q else Kc (a.put N undef) W := by
  subst hd
  exact Kd.R_lit_step Kd.string (w0 := w0) w0.heap.size 9 hw hn hrun hrep (fun _ hk => hk) trivial HB (below_size HB) hm (fun v1 w1 h1 h2 _ _ => h v1 w1 h1 h2)
end
theorem strs_new (W : World) (t : TypeId) (l : List ByteArray) (hl : l.length ≤ 100) : Kd.C Kd.string (W.alloc (.cells (l.map Value.string).toArray t)) (some ⟨W.heap.size, 0, none⟩) l.length l := by
  refine ⟨rfl, by omega, fun _ => ⟨_, rfl, fun j p hj => ⟨[.string p], rfl, rfl, fun i u hu => ?_⟩⟩⟩
  have hb := blk_new W (.cells (l.map Value.string).toArray t)
  match i, hu with
  | 0, hu =>
    obtain rfl : Value.string p = u := by simpa using hu
    have := blk_cell hb j
    have h2 : ((l.map Value.string).toArray)[j]? = some (.string p) := by simp [hj]
    have h3 : (⟨W.heap.size, 0, none⟩ : Addr).add (j * Kd.string.sz + 0) = ⟨W.heap.size, j, none⟩ := by
      show (⟨W.heap.size, 0, none⟩ : Addr).add (j * 1 + 0) = _
      have := Addr.add_mid W.heap.size 0 j
      rw [Nat.mul_one, Nat.add_zero]
      simpa using this
    rw [h3]
    exact this.trans h2
  | i + 1, hu => exact absurd hu (by simp)
def say_turned.T1 : Bool × List (List Nat × List Nat) := (true, [([], []), ([0], [0]), ([1], [1]), ([], []), ([3], [3]), ([4, 2], [4]), ([2, 5], [2, 5]), ([6, 5, 0, 1, 2, 3, 4, 5, 6], [6])])
def say_turned.B1 : List Nat := [0, 1, 3, 0, 8, 31, 63, 127]
theorem say_turned.tab1 : rtab .any (opsOf Tryz.f38 1) = say_turned.T1 := by kernel_rfl
theorem say_turned.bits1 : waitsOk say_turned.T1.2 say_turned.B1 = true := by kernel_rfl
set_option maxHeartbeats 16000000 in
set_option maxRecDepth 100000 in
theorem say_turned (x0 x1 x2 x3 x4 : Int) (k o n : ByteArray) (x8 : Int) (A9 : Option Addr) (n9 c9 : Nat) (A10 : Option Addr) (n10 c10 : Nat) (x11 x12 : Int) (act : Int) (w : World) (hk : k.size ≤ 1000000) (ho : o.size ≤ 1000000) (hn : n.size ≤ 1000000) :
    Calls Tryz.prog 38 #[.agg #[.int .i64 x0, .int .i64 x1, .int .i64 x2, .int .i64 x3, .int .i64 x4, .string k, .string o, .string n, .int .i64 x8, .slice A9 n9 c9, .slice A10 n10 c10, .int .i64 x11, .int .i64 x12], .int .i64 act] w fun e w' => ∃ v, e = .returned v ∧ Kd.R Kd.string 9 w' w.heap.size (fun _ => True) v (wC x3 k o n act) ∧ Below w.heap.size w w' := by
  obtain ⟨W1, hW1⟩ : ∃ W1, W1 = w.alloc (.cells #[.int .i64 x0, .int .i64 x1, .int .i64 x2, .int .i64 x3, .int .i64 x4, .string k, .string o, .string n, .int .i64 x8, .slice A9 n9 c9, .slice A10 n10 c10, .int .i64 x11, .int .i64 x12] 33) := ⟨_, rfl⟩
  have RR : Aside0 (IsRec W1 w.heap.size x0 x1 x2 x3 x4 k o n x8 (.slice A9 n9 c9) (.slice A10 n10 c10) x11 x12) := ⟨by rw [hW1]; exact blk_new w _⟩
  have BB : Aside0 (Below w.heap.size w W1) := ⟨by rw [hW1]; exact below_alloc (Below.refl _ _) _⟩
  have HK := Aside0.mk hk; have HO_ := Aside0.mk ho; have HN := Aside0.mk hn; have HB := Aside0.mk (Below.refl W1.heap.size W1); clear hk ho hn
  go_enter Tryz.func38, Tryz.ntmps38
  go_upto_region 1 with fail
  rw [← hW1]
  clear hW1
  refine start_ (n := 8) (S := fun w' => Below W1.heap.size W1 w') (ds := []) #[false, false, false, false, false, false, false, false] (by kernel_rfl) rfl rfl (below_drew HB.out) (fun hHeld => ?_); refine with_tabW say_turned.tab1 say_turned.bits1 (fun HT_ HW_ => ?_)
  refine ord_ [0, 1, 3, 4, 2, 5, 6, 7] ?_
  clear HB
  generalize W1.drew = U0 at hHeld ⊢
  iterate 4
    first
    | refine ordP (v := ?_) (a' := ?_) HT_ rfl rfl (by kernel_rfl) (fun _ _ _ h => h) (.inl ⟨by rfl, ?_⟩) ?_ ?_
      rotate_left
      · intro w'
        go_simp
        with_reducible rfl
      rotate_left
      · simp only [Act.put, List.setIfInBounds_toArray, List.set_cons_zero, List.set_cons_succ, i64_w, i32_w]
        rfl
    | refine ordT (v := ?_) (a' := ?_) HT_ HW_ rfl rfl (by kernel_rfl) (fun _ _ _ h => h) (.inl ⟨by rfl, ?_⟩) hHeld ?_ ?_
      rotate_left
      · intro w' hs
        obtain ⟨s0, s1, s2, s3, s4, s5, s6, s7, s8, s9, s10, s11, s12, _⟩ := IsRec.all13 (IsRec.below RR.out hs)
        go_simp
        with_reducible rfl
      rotate_left
      · simp only [Act.put, List.setIfInBounds_toArray, List.set_cons_zero, List.set_cons_succ, i64_w, i32_w]
        rfl
  refine ord1 (N := some 8) HT_ rfl rfl (by kernel_rfl) (by decide) (fun K hK => ?_)
  refine goes_ Tryz.func35 (by kernel_rfl) rfl #[.int .i64 x3] (by rfl) rfl rfl (by (try simp only [List.map_toArray, List.map_cons, List.map_nil]); rfl) ?_
  refine (say_num x3 U0).mono ?_
  rintro e U1 ⟨rfl, hb⟩
  refine ⟨_, rfl, ?_⟩
  refine hK.out _ _ (below_step hHeld hb) (fun hHeld2 => ?_)
  clear hK K hb hHeld; have hHeld := hHeld2; clear hHeld2
  refine ordN (a' := ?_) ?_ ?_
  rotate_left
  · simp only [Act.put, List.setIfInBounds_toArray, List.set_cons_zero, List.set_cons_succ]
    rfl
  refine ord1 (N := some 11) HT_ rfl rfl (by kernel_rfl) (by decide) (fun K hK => ?_)
  refine goes_ Tryz.func63 (by kernel_rfl) rfl #[.string k] (by rfl) rfl rfl (by (try simp only [List.map_toArray, List.map_cons, List.map_nil]); rfl) ?_
  refine (say_word k U1 HK.out).mono ?_
  rintro e U2 ⟨rfl, hb⟩
  refine ⟨_, rfl, ?_⟩
  refine hK.out _ _ (below_step hHeld hb) (fun hHeld2 => ?_)
  clear hK K hb hHeld; have hHeld := hHeld2; clear hHeld2
  refine ordN (a' := ?_) ?_ ?_
  rotate_left
  · simp only [Act.put, List.setIfInBounds_toArray, List.set_cons_zero, List.set_cons_succ]
    rfl
  refine ord1 (N := some 12) HT_ rfl rfl (by kernel_rfl) (by decide) (fun K hK => ?_)
  with_reducible refine lit_step (w0 := W1) (N := some 12) ?hg ?hd (n := 12) rfl (xs := ([⟨#[112, 97, 103, 101]⟩, (lowB x3), (mkW k)] : List ByteArray)) (inner := [.string ⟨#[112, 97, 103, 101]⟩, .string (lowB x3), .string (mkW k)]) ?hr ?hp hHeld ?hm ?_
  case hd => rfl
  case hg => rfl
  case hr => first | (go_simp; done) | (go_simp; rfl)
  case hp => exact Reps.one (show Kd.M Kd.string _ _ _ ⟨#[112, 97, 103, 101]⟩ [.string ⟨#[112, 97, 103, 101]⟩] from rfl) (Reps.one (show Kd.M Kd.string _ _ _ (lowB x3) [.string (lowB x3)] from rfl) (Reps.one (show Kd.M Kd.string _ _ _ (mkW k) [.string (mkW k)] from rfl) (Reps.none _ _)))
  case hm => simp
  intro v12 U3 ho hb
  have HO := Aside0.mk ho
  refine hK.out _ _ hb (fun hHeld2 => ?_)
  clear hK K hb ho hHeld; have hHeld := hHeld2; clear hHeld2
  refine ordN (a' := ?_) ?_ ?_
  rotate_left
  · simp only [Act.put, List.setIfInBounds_toArray, List.set_cons_zero, List.set_cons_succ]
    rfl
  refine ordP (v := ?_) (a' := ?_) HT_ rfl rfl (by kernel_rfl) (fun _ _ _ h => h) (.inl ⟨by rfl, ?_⟩) ?_ ?_
  rotate_left
  · intro w'
    go_simp
    with_reducible rfl
  rotate_left
  · simp only [Act.put, List.setIfInBounds_toArray, List.set_cons_zero, List.set_cons_succ, i64_w, i32_w]
    rfl
  refine ordD HT_ (by kernel_rfl) ?_
  have HB := Aside0.mk hHeld; clear hHeld HT_ HW_ 
  obtain ⟨z0, z1, z2, z3, z4, z5, z6, z7, z8, z9, z10, z11, z12, z13, z14, z15, z16, z17, z18, z19, z20, z21, z22, z23, z24, z25⟩ := IsRec.all13 (IsRec.below RR.out HB.out)
  by_cases ca : act = 3
  · have b0 : (act != 3) = false := bne_eq_false_iff_eq.mpr ca
    have b1 : (act != 4) = true := bne_iff_ne.mpr (by omega)
    have e1 : wC x3 k o n act = [⟨#[112, 97, 103, 101]⟩, lowB x3, mkW k] ++ [⟨#[110, 101, 119]⟩, mkW n] := by
      unfold wC
      rw [if_pos ca, if_neg (by omega), List.append_nil]
    have E1 := Aside0.mk e1; clear ca e1
    go_wp2_with fail
    refine (say_word n U3 HN.out).mono ?_
    rintro e w4 ⟨rfl, hb⟩
    have HO4 := Aside0.mk (Kd.R_below HO.out hb); have HB4 := Aside0.mk (below_step HB.out hb); clear hb
    go_wp2_with ((with_reducible refine gate_builtin (b := .append) (xs := #[.tmp 23, .tmp 27]) rfl ?_); at_builtin; refine words_op (w0 := W1) rfl (.tmp 23) (.tmp 27) rfl v12 [⟨#[112, 97, 103, 101]⟩, lowB x3, mkW k] [⟨#[110, 101, 119]⟩, mkW n] _ 2 2 rfl rfl ?aO ?aR ?aB ?aL ?_; (case aO => exact Kd.R_alloc HO4.out _); (case aR => exact strs_new _ _ [⟨#[110, 101, 119]⟩, mkW n] (by simp)); (case aB => exact below_alloc HB4.out _); (case aL => simp); intro v13 w5 ho hb; have HO5 := Aside0.mk ho; have HB5 := Aside0.mk hb; clear ho hb)
    go_ret
    exact ⟨_, rfl, by rw [E1.out]; exact Kd.R_lower HO5.out (below_size BB.out), below_step BB.out HB5.out⟩
  · have b0 : (act != 3) = true := bne_iff_ne.mpr ca
    by_cases cb : act = 4
    · have b1 : (act != 4) = false := bne_eq_false_iff_eq.mpr cb
      have e1 : wC x3 k o n act = [⟨#[112, 97, 103, 101]⟩, lowB x3, mkW k] ++ [⟨#[111, 108, 100]⟩, mkW o] := by
        unfold wC
        rw [if_neg ca, if_pos cb, List.append_nil]
      have E1 := Aside0.mk e1; clear ca cb e1
      go_wp2_with fail
      refine (say_word o U3 HO_.out).mono ?_
      rintro e w4 ⟨rfl, hb⟩
      have HO4 := Aside0.mk (Kd.R_below HO.out hb); have HB4 := Aside0.mk (below_step HB.out hb); clear hb
      go_wp2_with ((with_reducible refine gate_builtin (b := .append) (xs := #[.tmp 15, .tmp 19]) rfl ?_); at_builtin; refine words_op (w0 := W1) rfl (.tmp 15) (.tmp 19) rfl v12 [⟨#[112, 97, 103, 101]⟩, lowB x3, mkW k] [⟨#[111, 108, 100]⟩, mkW o] _ 2 2 rfl rfl ?aO ?aR ?aB ?aL ?_; (case aO => exact Kd.R_alloc HO4.out _); (case aR => exact strs_new _ _ [⟨#[111, 108, 100]⟩, mkW o] (by simp)); (case aB => exact below_alloc HB4.out _); (case aL => simp); intro v13 w5 ho hb; have HO5 := Aside0.mk ho; have HB5 := Aside0.mk hb; clear ho hb)
      go_ret
      exact ⟨_, rfl, by rw [E1.out]; exact Kd.R_lower HO5.out (below_size BB.out), below_step BB.out HB5.out⟩
    · have b1 : (act != 4) = true := bne_iff_ne.mpr cb
      have e1 : wC x3 k o n act = ([⟨#[112, 97, 103, 101]⟩, lowB x3, mkW k] ++ [⟨#[111, 108, 100]⟩, mkW o]) ++ [⟨#[110, 101, 119]⟩, mkW n] := by
        unfold wC
        rw [if_neg ca, if_neg cb]
      have E1 := Aside0.mk e1; clear ca cb e1
      go_wp2_with fail
      refine (say_word o U3 HO_.out).mono ?_
      rintro e w4 ⟨rfl, hb⟩
      have HO4 := Aside0.mk (Kd.R_below HO.out hb); have HB4 := Aside0.mk (below_step HB.out hb); clear hb
      go_upto_region 4 with ((with_reducible refine gate_builtin (b := .append) (xs := #[.tmp 15, .tmp 19]) rfl ?_); at_builtin; refine words_op (w0 := W1) rfl (.tmp 15) (.tmp 19) rfl v12 [⟨#[112, 97, 103, 101]⟩, lowB x3, mkW k] [⟨#[111, 108, 100]⟩, mkW o] _ 2 2 rfl rfl ?aO ?aR ?aB ?aL ?_; (case aO => exact Kd.R_alloc HO4.out _); (case aR => exact strs_new _ _ [⟨#[111, 108, 100]⟩, mkW o] (by simp)); (case aB => exact below_alloc HB4.out _); (case aL => simp); intro v13 w5 ho hb; have HO5 := Aside0.mk ho; have HB5 := Aside0.mk hb; clear ho hb)
      clear z0 z1 z2 z3 z4 z5 z6 z7 z8 z9 z10 z11 z12 z13 z14 z15 z16 z17 z18 z19 z20 z21 z22 z23 z24 z25
      obtain ⟨z0, z1, z2, z3, z4, z5, z6, z7, z8, z9, z10, z11, z12, z13, z14, z15, z16, z17, z18, z19, z20, z21, z22, z23, z24, z25⟩ := IsRec.all13 (IsRec.below RR.out HB5.out)
      go_wp2_with fail
      refine (say_word n w5 HN.out).mono ?_
      rintro e w6 ⟨rfl, hb⟩
      have HO6 := Aside0.mk (Kd.R_below HO5.out hb); have HB6 := Aside0.mk (below_step HB5.out hb); clear hb
      go_wp2_with ((with_reducible refine gate_builtin (b := .append) (xs := #[.tmp 23, .tmp 27]) rfl ?_); at_builtin; refine words_op (w0 := W1) rfl (.tmp 23) (.tmp 27) rfl v13 ([⟨#[112, 97, 103, 101]⟩, lowB x3, mkW k] ++ [⟨#[111, 108, 100]⟩, mkW o]) [⟨#[110, 101, 119]⟩, mkW n] _ 2 2 rfl rfl ?aO ?aR ?aB ?aL ?_; (case aO => exact Kd.R_alloc HO6.out _); (case aR => exact strs_new _ _ [⟨#[110, 101, 119]⟩, mkW n] (by simp)); (case aB => exact below_alloc HB6.out _); (case aL => simp); intro v14 w7 ho hb; have HO7 := Aside0.mk ho; have HB7 := Aside0.mk hb; clear ho hb)
      go_ret
      exact ⟨_, rfl, by rw [E1.out]; exact Kd.R_lower HO7.out (below_size BB.out), below_step BB.out HB7.out⟩
end Go.Proofs.YteoebfiacnploaaGreatDoor.HRec
