/- What the evaluator tells of operations that turn no memory, or lay new rows. It proves no statement. -/
import Derived.Test.YtddcgoopgnogeaaGreatDoorEvB
import Derived.Laws.BytesString
import Derived.Laws.NewFold
import Derived.Laws.MakeOwn
import Derived.Great.BuildSlice
import Derived.Laws.IdiomStrings
set_option linter.unusedVariables false
set_option linter.unusedSimpArgs false
set_option linter.unusedSectionVars false
namespace Go.Proofs.YtddcgoopgnogeaaGreatDoor.Ev
open Go.RowKit (Below)
set_option linter.unusedVariables false
section
variable {P : Program}
theorem single_map {xs : List Operand} {g : G} (h : xs.map gOf = [g]) : ∃ x, xs = [x] ∧ gOf x = g := by
  cases xs with
  | nil => cases h
  | cons x xs => cases xs with
    | nil => injection h with h; exact ⟨x, rfl, h⟩
    | cons _ _ => simp at h
theorem pair_map {xs : List Operand} {g g' : G} (h : xs.map gOf = [g, g']) : ∃ x y, xs = [x, y] ∧ gOf x = g ∧ gOf y = g' := by
  cases xs with
  | nil => cases h
  | cons x xs =>
    simp only [List.map_cons] at h
    injection h with h1 h2
    obtain ⟨y, rfl, h3⟩ := single_map h2
    exact ⟨x, y, rfl, h1, h3⟩
theorem cons_map {xs : List Operand} {g : G} {gs : List G} (h : xs.map gOf = g :: gs) : ∃ x ys, xs = x :: ys ∧ gOf x = g ∧ gs = ys.map gOf := by
  cases xs with
  | nil => cases h
  | cons x xs => injection h with h1 h2; exact ⟨x, xs, rfl, h1, h2.symm⟩
theorem arr_of {α : Type} {xs : Array α} {l : List α} (h : xs.toList = l) : xs = l.toArray := by rw [← h]
theorem viNil_some {x : AV} {b : Bool} (h : viNil x = some b) : (x = .nili ∧ b = true) ∨ ∃ t v, x = .ifc t v ∧ b = false := by
  cases x <;> first | (cases h; done) | (injection h with h; exact .inl ⟨rfl, h.symm⟩) | (injection h with h; exact .inr ⟨_, _, rfl, h.symm⟩)
theorem run_nil0 (d : Nat) {t : TypeId} {x : AV} {b : Bool} {η : Env} {ρ : Ren} {w : World} {td : TypeDesc} (hi : ∃ m, td = .interface m) (hu : P.underlying t = some td) (h : viNil x = some b) :
    (Op.equalIn (d + 1) t (val ρ η x) .nilIface).run P w = .ok b w := by
  obtain ⟨m, rfl⟩ := hi
  rcases viNil_some h with ⟨rfl, rfl⟩ | ⟨t', v, rfl, rfl⟩
  · simp [val, Op.equalIn, run_underlying hu]
  · simp [val, Op.equalIn, run_underlying hu]
theorem run_nil {t : TypeId} {ms : Array String} {x : AV} {b : Bool} {η : Env} {ρ : Ren} {w : World} {op : BinOp} {ox : Operand} {td : TypeDesc} (hi : ∃ m, td = .interface m) (hu : P.underlying t = some td) (h : viNil x = some b) :
    (Op.equal t (val ρ η x) .nilIface).run P w = .ok b w ∧ (eqGuard op t ox (.const .nilIface) (val ρ η x) .nilIface).run P w = .ok () w ∧
      ((∀ k n, val ρ η x ≠ .int k n) ∧ (∀ k n, val ρ η x ≠ .float k n) ∧ (∀ k p q, val ρ η x ≠ .complex k p q) ∧ ∀ s, val ρ η x ≠ .string s) := by
  have h0 := run_nil0 (P := P) (η := η) (ρ := ρ) (w := w) 9999 hi hu h
  rcases viNil_some h with ⟨rfl, rfl⟩ | ⟨t', v, rfl, rfl⟩
  · refine ⟨h0, ?_, by simp [val]⟩
    cases op <;> simp [val, eqGuard]
  · refine ⟨h0, ?_, by simp [val]⟩
    cases op <;> simp [val, eqGuard]
theorem nil_ok {o : Oper} {op : BinOp} {t t' : TypeId} {x y : Operand} {f : Loc → Option AV} (ho : o.op = .binOp op t x y t') (hf : nilC P op t x y = some f) : PurOk P o f := by
  unfold nilC at hf
  split at hf
  · rename_i m hu
    injection hf with hf
    subst hf
    intro η ρ nx L a v hη hL h
    obtain ⟨b, h1, h2⟩ := oget_some h
    injection h2 with h2
    subst h2
    have hx : a.eval x = val ρ η ((gOf x).g L) := ((gOf_sound hL x).of (by rcases viNil_some h1 with ⟨e, _⟩ | ⟨_, _, e, _⟩ <;> rw [e] <;> simp)).2
    refine ⟨.bool b, fun w => ?_, Tells.val (.bool b)⟩
    obtain ⟨g1, g2, g3⟩ := run_nil (P := P) (ms := #[]) (η := η) (ρ := ρ) (w := w) (op := .eql) (ox := x) ⟨m, rfl⟩ hu h1
    simp only [execOp, ho]
    apply run_v
    rw [hx]
    show Sem.run P (do eqGuard .eql t x (.const .nilIface) (val ρ η ((gOf x).g L)) .nilIface; binOp .eql t (val ρ η ((gOf x).g L)) .nilIface) w = _
    rw [Sem.run_bind, g2]
    exact (binOp_eql_of g3 g1).1
  · rename_i m hu
    injection hf with hf
    subst hf
    intro η ρ nx L a v hη hL h
    obtain ⟨b, h1, h2⟩ := oget_some h
    injection h2 with h2
    subst h2
    have hx : a.eval x = val ρ η ((gOf x).g L) := ((gOf_sound hL x).of (by rcases viNil_some h1 with ⟨e, _⟩ | ⟨_, _, e, _⟩ <;> rw [e] <;> simp)).2
    refine ⟨.bool (!b), fun w => ?_, by rw [not'_eq]; exact Tells.val (.bool _)⟩
    obtain ⟨g1, g2, g3⟩ := run_nil (P := P) (ms := #[]) (η := η) (ρ := ρ) (w := w) (op := .neq) (ox := x) ⟨m, rfl⟩ hu h1
    simp only [execOp, ho]
    apply run_v
    rw [hx]
    show Sem.run P (do eqGuard .neq t x (.const .nilIface) (val ρ η ((gOf x).g L)) .nilIface; binOp .neq t (val ρ η ((gOf x).g L)) .nilIface) w = _
    rw [Sem.run_bind, g2]
    exact (binOp_eql_of g3 g1).2
  · cases hf
theorem tot_sound0 {o : Oper} {f : Loc → AV} (h : opC0 P o.op = .tot f) : TotOk P o f := by
  cases hop : o.op <;> rw [hop] at h
  case move x => injection h with h; subst h; exact move_ok (.inl hop)
  case assign x => injection h with h; subst h; exact move_ok (.inr hop)
  case binOp op t x y t2 =>
    have h' : binOpI P op t x y = .tot f := h
    unfold binOpI at h'
    clear h
    try unfold binOpC at h'
    repeat (first | cases h' | split at h')
  case unOp op t x =>
    have h' : unC P op t (gOf x) = .tot f := h
    clear h
    try unfold unC at h'
    repeat (first | cases h' | split at h')
  case convert s t x =>
    have h' : convC P s t (gOf x) = .tot f := h
    clear h
    try unfold convC at h'
    repeat (first | cases h' | split at h')
  case slice t x lo hi mx =>
    have h' : sliceC P t (gOf x) (lo.map gOf) (hi.map gOf) (mx.map gOf) = .tot f := h
    clear h
    try unfold sliceC at h'
    repeat (first | cases h' | split at h')
    try unfold sliceC0 at h'
    repeat (first | cases h' | split at h')
    try unfold slicePtr at h'
    repeat (first | cases h' | split at h')
  case fieldAddr s x i =>
    have h' : fieldAddrC P s (gOf x) i = .tot f := h
    clear h
    try unfold fieldAddrC at h'
    repeat (first | cases h' | split at h')
  case field s x i =>
    have h' : fieldC P s (gOf x) i = .tot f := h
    clear h
    try unfold fieldC at h'
    repeat (first | cases h' | split at h')
  case indexAddr t x i =>
    have h' : indexAddrC P t (gOf x) (gOf i) = .tot f := h
    clear h
    try unfold indexAddrC at h'
    repeat (first | cases h' | split at h')
  case index t x i =>
    have h' : indexC P t (gOf x) (gOf i) = .tot f := h
    clear h
    try unfold indexC at h'
    repeat (first | cases h' | split at h')
  case build t ps =>
    have h' : buildC P t (ps.toList.map fun (i, x) => (i, gOf x)) = .tot f := h
    clear h
    try unfold buildC at h'
    repeat (first | cases h' | split at h')
  case alloc t =>
    have h' : allocC P t = .tot f := h
    clear h
    try unfold allocC at h'
    repeat (first | cases h' | split at h')
  case box t x =>
    have h' : boxC P t (gOf x) = .tot f := h
    clear h
    try unfold boxC at h'
    repeat (first | cases h' | split at h')
  case buildSlice t n ps =>
    have h' : buildSliceC P t n (ps.toList.map fun (i, x) => (i, gOf x)) = .tot f := h
    clear h
    try unfold buildSliceC at h'
    repeat (first | cases h' | split at h')
  case load t x =>
    have h' : loadC P t (gOf x) = .tot f := h
    clear h
    try unfold loadC at h'
    repeat (first | cases h' | split at h')
  case store t x y =>
    have h' : storeC P t (gOf x) (gOf y) = .tot f := h
    clear h
    try unfold storeC at h'
    repeat (first | cases h' | split at h')
  case makeSlice t l c =>
    have h' : makeSliceC P t (gOf l) (gOf c) = .tot f := h
    clear h
    try unfold makeSliceC at h'
    repeat (first | cases h' | split at h')
  case lookup t x i b =>
    have h' : lookupC P t (gOf x) (gOf i) b = .tot f := h
    clear h
    try unfold lookupC at h'
    repeat (first | cases h' | split at h')
  case insert t m k v =>
    have h' : mapUpdateC P t (gOf m) (gOf k) (gOf v) = .tot f := h
    clear h
    try unfold mapUpdateC at h'
    repeat (first | cases h' | split at h')
  case mapUpdate t m k v =>
    have h' : mapUpdateC P t (gOf m) (gOf k) (gOf v) = .tot f := h
    clear h
    try unfold mapUpdateC at h'
    repeat (first | cases h' | split at h')
  case makeInterface t x =>
    have h' : makeIfaceC P t (gOf x) = .tot f := h
    clear h
    try unfold makeIfaceC at h'
    repeat (first | cases h' | split at h')
  case call c =>
    have h' : callC P c = .tot f := h
    clear h
    try unfold callC at h'
    repeat (first | cases h' | split at h')
    try unfold builtinC at h'
    repeat (first | cases h' | split at h')
    try unfold extC at h'
    repeat (first | cases h' | split at h')
    try unfold callValC at h'
    repeat (first | cases h' | split at h')
  case makeMap t r => cases r <;> cases h
  case makeFunc fn first captured =>
    cases fn with
    | func i =>
      have h' : makeFuncC i first.toList (captured.toList.map gOf) = .tot f := h
      unfold makeFuncC at h'
      split at h' <;> cases h'
    | _ => cases h
  all_goals cases h
theorem builtin_pur {o : Oper} {c : Call} {b : Builtin} {f : Loc → Option AV} (ho : o.op = .call c) (hc : c.callee = .builtin b) (h : builtinC P b c.argTypes.toList (c.args.toList.map gOf) = .pur f) : PurOk P o f := by
  unfold builtinC at h
  split at h
  · rename_i t x ht hx
    obtain ⟨y, hy, rfl⟩ := single_map hx
    split at h
    · rename_i hu; injection h with h; subst h; exact len_str ho hc (arr_of ht) (arr_of hy) hu
    · rename_i n e hu; injection h with h; subst h; exact len_arr ho hc (arr_of ht) (arr_of hy) (.inl hu)
    · rename_i ar hu
      split at h
      · rename_i n e hu'; injection h with h; subst h; exact len_arr ho hc (arr_of ht) (arr_of hy) (.inr ⟨ar, hu, hu'⟩)
      · cases h
    · rename_i e hu; injection h with h; subst h; exact len_sl ho hc (arr_of ht) (arr_of hy) hu
    · cases h
    · cases h
  · rename_i t x ht hx
    obtain ⟨y, hy, rfl⟩ := single_map hx
    split at h
    · rename_i e hu; injection h with h; subst h; exact cap_sl ho hc (arr_of ht) (arr_of hy) hu
    · cases h
  · repeat (first | cases h | split at h)
  · repeat (first | cases h | split at h)
  · rename_i t ts x xs ht hx
    obtain ⟨y, ys, hy, rfl, rfl⟩ := cons_map hx
    split at h
    · rename_i k hu
      split at h
      · rename_i K hk; injection h with h; subst h; exact min_ok ho hc hy hk
      · cases h
    · cases h
  · rename_i t ts x xs ht hx
    obtain ⟨y, ys, hy, rfl, rfl⟩ := cons_map hx
    split at h
    · rename_i k hu
      split at h
      · rename_i K hk; injection h with h; subst h; exact max_ok ho hc hy hk
      · cases h
    · cases h
  · repeat (first | cases h | split at h)
  · repeat (first | cases h | split at h)
  · rename_i x hx
    obtain ⟨y, hy, rfl⟩ := single_map hx
    injection h with h; subst h; exact sliceData_ok ho hc (arr_of hy)
  · repeat (first | cases h | split at h)
  · cases h
theorem pur_sound0 {o : Oper} {f : Loc → Option AV} (h : opC0 P o.op = .pur f) : PurOk P o f := by
  cases hop : o.op <;> rw [hop] at h
  case pick c x y => injection h with h; subst h; exact pick_ok hop
  case nilCheck x => injection h with h; subst h; exact nilCheck_ok hop
  case extract x i => injection h with h; subst h; exact extract_ok hop
  case binOp op t x y t' =>
    have h' : binOpI P op t x y = .pur f := h
    unfold binOpI at h'
    split at h'
    · rename_i g hg; injection h' with h'; subst h'; exact nil_ok hop hg
    · unfold binOpC at h'
      split at h'
      · rename_i g hg; injection h' with h'; subst h'; exact binOp_ok hop hg (binC_known hg)
      · cases h'
  case unOp op t x =>
    have h' : unC P op t (gOf x) = .pur f := h
    unfold unC at h'
    split at h'
    · injection h' with h'; subst h'; exact not_ok hop
    · split at h'
      · rename_i K hk; injection h' with h'; subst h'; exact neg_ok (k' := .i64) hop hk
      · cases h'
    · cases h'
  case convert s t x =>
    have h' : convC P s t (gOf x) = .pur f := h
    unfold convC at h'
    split at h'
    · rename_i j k hs ht
      split at h'
      · rename_i K hk; injection h' with h'; subst h'; exact conv_int hop hs ht hk
      · cases h'
    · rename_i hs ht; injection h' with h'; subst h'; exact conv_str hop hs ht
    · split at h' <;> cases h'
    · split at h' <;> cases h'
    · cases h'
  case makeFunc fn first captured =>
    cases fn with
    | func i =>
      have h' : makeFuncC i first.toList (captured.toList.map gOf) = .pur f := h
      unfold makeFuncC at h'
      split at h'
      · rename_i hf; injection h' with h'; subst h'
        exact makeFunc_ok (by rw [hop, arr_of hf])
      · cases h'
    | _ => cases h
  case makeInterface t x =>
    have h' : makeIfaceC P t (gOf x) = .pur f := h
    unfold makeIfaceC at h'
    split at h'
    · rename_i hc; injection h' with h'; subst h'
      refine makeInterface_ok hop ?_
      unfold isConc at hc
      cases hu : P.underlying t with
      | none => rw [hu] at hc; cases hc
      | some d => exact ⟨d, rfl, by rintro ms rfl; rw [hu] at hc; cases hc⟩
    · cases h'
  case build t ps =>
    have h' : buildC P t (ps.toList.map fun (i, x) => (i, gOf x)) = .pur f := h
    unfold buildC at h'
    split at h'
    · cases h'
    · rename_i z hz
      split at h'
      · rename_i fs hu
        split at h'
        · rename_i l hl
          injection h' with h'; subst h'
          obtain ⟨pl, hp, hl⟩ := Option.bind_eq_some_iff.1 hl
          intro η ρ nx L a v hη hL h
          obtain ⟨r1, r2⟩ := build_ok hη hop hz (.inl ⟨fs, pl, hu, hp, rfl⟩) hl hL h
          exact ⟨_, r1, Tells.val r2⟩
        · cases h'
      · rename_i n e hu
        split at h'
        · rename_i k hs
          split at h'
          · rename_i l hl
            injection h' with h'; subst h'
            intro η ρ nx L a v hη hL h
            obtain ⟨r1, r2⟩ := build_ok hη hop hz (.inr ⟨n, e, k, hu, hs, rfl⟩) hl hL h
            exact ⟨_, r1, Tells.val r2⟩
          · cases h'
        · cases h'
      · cases h'
  case call c =>
    have h' : callC P c = .pur f := h
    unfold callC at h'
    split at h'
    · rename_i b hc; exact builtin_pur hop hc h'
    · rename_i g hc
      split at h'
      · rename_i fn hf
        unfold extC at h'
        split at h'
        · rename_i hn
          split at h'
          · rename_i xs hx
            obtain ⟨y, hy, rfl⟩ := single_map hx
            injection h' with h'; subst h'; exact noEscape_ok hop hc hf (arr_of hy) hn
          · cases h'
        · split at h'
          · rename_i hn
            split at h'
            · rename_i xs x y hx
              obtain ⟨u, v, hy, rfl, rfl⟩ := pair_map hx
              injection h' with h'; subst h'; exact cmp_ok hop hc hf (arr_of hy) hn
            · cases h'
          · split at h'
            · repeat (first | cases h' | split at h')
            · cases h'
      · cases h'
    · cases h'
  case slice t x lo hi mx =>
    have h' : sliceC P t (gOf x) (lo.map gOf) (hi.map gOf) (mx.map gOf) = .pur f := h
    unfold sliceC at h'
    split at h'
    · cases h'
    · rename_i hne
      have hm : hi = none → mx = none := by
        rintro rfl
        cases mx with
        | none => rfl
        | some m => exact absurd rfl (hne _ rfl)
      unfold sliceC0 at h'
      split at h'
      · rename_i hu
        cases mx with
        | some m => cases h'
        | none => injection h' with h'; subst h'; exact slice_str hop hu
      · repeat (first | cases h' | split at h')
      · rename_i n e hu
        split at h'
        · rename_i z hz; injection h' with h'; subst h'; exact slice_ptr hop hm (.inl hu) hz
        · cases h'
      · rename_i ar hu
        split at h'
        · rename_i n e hu'
          split at h'
          · rename_i z hz; injection h' with h'; subst h'; exact slice_ptr hop hm (.inr ⟨ar, hu, hu'⟩) hz
          · cases h'
        · cases h'
      · cases h'
  case fieldAddr s x i =>
    have h' : fieldAddrC P s (gOf x) i = .pur f := h
    unfold fieldAddrC at h'
    split at h'
    · rename_i fs hu
      split at h'
      · rename_i fd hf
        split at h'
        · rename_i z hz; injection h' with h'; subst h'; exact fieldAddr_ok hop hu hf hz
        · cases h'
      · cases h'
    · cases h'
  case field s x i =>
    have h' : fieldC P s (gOf x) i = .pur f := h
    unfold fieldC at h'
    split at h'
    · rename_i fs hu
      split at h'
      · rename_i fd hf
        split at h'
        · rename_i g n hg hz; injection h' with h'; subst h'; exact field_ok hop hu hf hg hz
        · cases h'
      · cases h'
    · cases h'
  case indexAddr t x i =>
    have h' : indexAddrC P t (gOf x) (gOf i) = .pur f := h
    unfold indexAddrC at h'
    split at h'
    · rename_i n e hu
      split at h'
      · rename_i z hz; injection h' with h'; subst h'; exact indexAddr_arr hop hu hz
      · cases h'
    · rename_i e hu
      split at h'
      · rename_i z hz; injection h' with h'; subst h'; exact indexAddr_sl hop hu hz
      · cases h'
    · cases h'
  case index t x i =>
    have h' : indexC P t (gOf x) (gOf i) = .pur f := h
    unfold indexC at h'
    split at h'
    · rename_i hu; injection h' with h'; subst h'; exact index_str hop hu
    · rename_i n e hu
      split at h'
      · rename_i g z hg hz; injection h' with h'; subst h'; exact index_arr hop hu hg hz
      · cases h'
    · cases h'
  case alloc t =>
    have h' : allocC P t = .pur f := h
    clear h
    unfold allocC at h'
    repeat (first | cases h' | split at h')
  case box t x =>
    have h' : boxC P t (gOf x) = .pur f := h
    unfold boxC at h'
    split at h' <;> cases h'
  case buildSlice t n ps =>
    have h' : buildSliceC P t n (ps.toList.map fun (i, x) => (i, gOf x)) = .pur f := h
    clear h
    unfold buildSliceC at h'
    repeat (first | cases h' | split at h')
  case load t x =>
    have h' : loadC P t (gOf x) = .pur f := h
    unfold loadC at h'
    split at h' <;> cases h'
  case store t x y =>
    have h' : storeC P t (gOf x) (gOf y) = .pur f := h
    unfold storeC at h'
    split at h' <;> cases h'
  case makeMap t r => cases r <;> cases h
  case makeSlice t l c =>
    have h' : makeSliceC P t (gOf l) (gOf c) = .pur f := h
    clear h
    unfold makeSliceC at h'
    repeat (first | cases h' | split at h')
  case lookup t x i b =>
    have h' : lookupC P t (gOf x) (gOf i) b = .pur f := h
    unfold lookupC at h'
    split at h' <;> first | (split at h' <;> cases h') | cases h'
  case insert t m k v =>
    have h' : mapUpdateC P t (gOf m) (gOf k) (gOf v) = .pur f := h
    unfold mapUpdateC at h'
    split at h' <;> first | (split at h' <;> cases h') | cases h'
  case mapUpdate t m k v =>
    have h' : mapUpdateC P t (gOf m) (gOf k) (gOf v) = .pur f := h
    unfold mapUpdateC at h'
    split at h' <;> first | (split at h' <;> cases h') | cases h'
  all_goals cases h
end
end Go.Proofs.YtddcgoopgnogeaaGreatDoor.Ev
namespace Go.Proofs.YtddcgoopgnogeaaGreatDoor.Ev
open Go.RowKit (Below)
set_option linter.unusedVariables false
section
variable {P : Program} {η : Env} {base : Nat} {W w : World} {ρ : Ren} {H : Heap} {L : Loc} {a : Act} {nx : Nat}
/-- An operation that turns no memory yields what the evaluator tells. -/
def LookOk (P : Program) (o : Oper) (f : Loc → Heap → Option AV) : Prop :=
  ∀ (η : Env) (base : Nat) (W : World) (ρ : Ren) (H : Heap) (w : World) (L : Loc) (a : Act) (v : AV), Leaves η → Sim η base W ρ H w → LocOk η ρ H.nx L a → f L H = some v →
    (execOp a.eval o).run P w = .ok (.value (val ρ η v)) w ∧ Wf ρ H.nx v
theorem load_leaf {o : Oper} {t : TypeId} {x : Operand} (ho : o.op = .load t x) (hg : aggOf P t = some false) : LookOk P o fun L H => VP.rec none none (fun id off => H.cell id off) ((gOf x).g L).vp := by
  intro η base W ρ H w L a v hη hS hL h
  obtain ⟨id, off, h1, h2⟩ := vprec_some h
  obtain ⟨h3, h4⟩ := tells_ptr (gOf_sound hL x) h1
  obtain ⟨g1, g2, g3⟩ := hS.cell h4 h2
  refine ⟨?_, g2⟩
  simp only [execOp, ho]
  apply run_v
  rw [h3]
  simp [Instr.loadAt, Instr.sureAddr, loadVar, run_isAgg hg, g1]
theorem run_cells {ad : Nat} {o k : Nat} {l : List Value} (hl : l.length = k) (h : ∀ j v, l[j]? = some v → w.cell? ⟨ad, o + j, none⟩ = some v) :
    (loadCells ⟨ad, o, none⟩ k).run P w = .ok l.toArray w := by
  subst hl
  exact run_loadCells_list w _ l fun j v hj => by rw [add_mk]; exact h j v hj
theorem load_agg {o : Oper} {t : TypeId} {x : Operand} {n : Nat} (ho : o.op = .load t x) (hg : aggOf P t = some true) (hz : szOf P t = some n) :
    LookOk P o fun L H => VP.rec none none (fun id off => Option.rec none (fun l => some (.agg l)) (H.cells id off n)) ((gOf x).g L).vp := by
  intro η base W ρ H w L a v hη hS hL h
  obtain ⟨id, off, h1, h2⟩ := vprec_some h
  obtain ⟨l, h5, h6⟩ := oget_some h2
  injection h6 with h6
  subst h6
  obtain ⟨h3, h4⟩ := tells_ptr (gOf_sound hL x) h1
  obtain ⟨g1, g2, g3, g4⟩ := hS.cells h4 h5
  refine ⟨?_, .agg g3 g4⟩
  simp only [execOp, ho]
  apply run_v
  rw [h3]
  have := run_cells (P := P) (l := l.map (val ρ η)) (k := n) (by simp [g1]) g2
  simp [Instr.loadAt, Instr.sureAddr, loadVar, run_isAgg hg, run_szOf hz, this, val, vals_eq]
/-! Bytes. -/
theorem bytesStr_go : ∀ (l : List AV) (acc n : Nat), (List.rec (fun acc => some acc) (fun x _ ih acc => Option.rec none (fun b => ih (Nat.add (Nat.mul acc 256) b)) x.vu8) l acc : Option Nat) = some n → (∀ x ∈ l, Wf ρ nx x) →
    ∃ bs : List UInt8, l = bs.map (fun b => AV.u8 b.toNat) ∧ n = (List.rec (fun acc => acc) (fun b _ ih acc => ih (Nat.add (Nat.mul acc 256) b)) (bs.map (·.toNat)) acc : Nat)
  | [], acc, n, h, hw => ⟨[], rfl, by injection h with h; exact h.symm⟩
  | x :: l, acc, n, h, hw => by
    obtain ⟨b, h1, h2⟩ := oget_some h
    obtain rfl := vu8_some h1
    have hb : b < 256 := by have := hw (.u8 b) (by simp); cases this; assumption
    obtain ⟨bs, h3, h4⟩ := bytesStr_go l _ n h2 (fun y hy => hw y (by simp [hy]))
    have hbb : (UInt8.ofNat b).toNat = b := by rw [UInt8.toNat_ofNat', Nat.mod_eq_of_lt hb]
    refine ⟨UInt8.ofNat b :: bs, by simp [hbb, h3], ?_⟩
    rw [h4]
    simp only [List.map_cons, hbb]
theorem bytesStr_some {l : List AV} {n : Nat} (h : bytesStr l = some n) (hw : ∀ x ∈ l, Wf ρ nx x) :
    ∃ bs : List UInt8, l = bs.map (fun b => AV.u8 b.toNat) ∧ n < 2 ^ (8 * l.length) ∧ bytesOf l.length n = bs := by
  obtain ⟨bs, h1, h2⟩ := bytesStr_go l 0 n h hw
  have hn : n = bytesN (bs.map (·.toNat)) := h2
  obtain ⟨h3, h4⟩ := bytesN_ok bs
  rw [← hn] at h3 h4
  have hl : l.length = bs.length := by rw [h1]; simp
  exact ⟨bs, h1, by rw [hl]; exact h3, by rw [hl]; exact h4⟩
theorem foldl_push : ∀ (bs : List UInt8) (r : ByteArray), ((bs.map (fun b => (b.toNat : Int))).foldl (fun r n => r.push (UInt8.ofNat n.toNat)) r) = ⟨r.data ++ bs.toArray⟩
  | [], r => by cases r; simp
  | b :: bs, r => by
    simp only [List.map_cons, List.foldl_cons, Int.toNat_natCast]
    rw [foldl_push bs]
    have : UInt8.ofNat b.toNat = b := by simp
    rw [this]
    apply ByteArray.ext
    simp [ByteArray.push]
/-- The cells of so many elements of a slice. -/
theorem Sim.elems (h : Sim η base W ρ H w) {es k : Nat} {x : AV} {v : Value} {l : List AV} (hx : Tells η ρ H.nx x v) (he : elems H es x k = some l) :
    (x = .nils ∧ l = [] ∧ v = .slice none 0 0) ∨
    (∃ ad o len cap, v = .slice (some ⟨ad, o, none⟩) len cap ∧ (∀ s n, x ≠ .str s n) ∧ l.length = k * es ∧ (∀ j u, (l.map (val ρ η))[j]? = some u → w.cell? ⟨ad, o + j, none⟩ = some u) ∧ (∀ y ∈ l, Wf ρ H.nx y) ∧ ∀ y ∈ l, y.leaf = true) ∨
    (∃ s n, x = .str s n ∧ v = .string ⟨(bytesOf s n).toArray⟩ ∧ n < 2 ^ (8 * s) ∧ es = 1 ∧ l = (strBytes s n).take k) := by
  unfold Ev.elems at he
  split at he
  · injection he with he
    exact .inl ⟨rfl, he.symm, (hx.of (by simp)).2⟩
  · rename_i id off len cap
    obtain ⟨g1, g2⟩ := hx.of (by simp)
    cases g1 with
    | sl hid hl =>
      obtain ⟨c1, c2, c3, c4⟩ := h.cells hid he
      exact .inr (.inl ⟨_, _, _, _, g2, by simp, c1, c2, c3, c4⟩)
  · rename_i id eo len es'
    obtain ⟨h1, h2⟩ := brec_some he (by simp)
    obtain rfl := Nat.eq_of_beq_eq_true h1
    obtain ⟨g1, g2⟩ := hx.of (by simp)
    cases g1 with
    | slo hid hl =>
      obtain ⟨c1, c2, c3, c4⟩ := h.cells hid h2
      exact .inr (.inl ⟨_, _, _, _, g2, by simp, c1, c2, c3, c4⟩)
  · rename_i s n
    obtain ⟨h1, h2⟩ := brec_some he (by simp)
    injection h2 with h2
    obtain ⟨g1, g2⟩ := hx.of (by simp)
    exact .inr (.inr ⟨s, n, rfl, g2, g1.str_lt, Nat.eq_of_beq_eq_true h1, by rw [← h2, take'_eq]⟩)
  · cases he
theorem slLen_some {x : AV} {v : Value} {k : Nat} (hx : Tells η ρ nx x v) (h : slLen x = some k) : (∃ ad cap, v = .slice ad k cap) ∧ ∀ s n, x ≠ .str s n := by
  unfold slLen at h
  rcases vl_cases x with ⟨h1, rfl⟩ | ⟨i, o, l, c, h1, rfl⟩ | ⟨i, o, l, c, h1, rfl⟩ | h1 <;> simp only [h1] at h
  · injection h with h; subst h; exact ⟨⟨none, 0, (hx.of (by simp)).2⟩, by simp⟩
  · injection h with h; subst h; exact ⟨⟨_, _, (hx.of (by simp)).2⟩, by simp⟩
  · injection h with h; subst h; exact ⟨⟨_, _, (hx.of (by simp)).2⟩, by simp⟩
  · cases h
theorem conv_bytes {o : Oper} {s t e : TypeId} {x : Operand} (ho : o.op = .convert s t x) (hs : P.underlying s = some (.slice e)) (ht : P.underlying t = some .string) (he : P.underlying e = some (.int .u8)) :
    LookOk P o fun L H => Option.rec none (fun k => Option.rec none (fun l => Option.rec none (fun n => some (.str k n)) (bytesStr l)) (elems H 1 ((gOf x).g L) k)) (slLen ((gOf x).g L)) := by
  intro η base W ρ H w L a v hη hS hL h
  obtain ⟨k, h1, h2⟩ := oget_some h
  obtain ⟨l, h3, h4⟩ := oget_some h2
  obtain ⟨n, h5, h6⟩ := oget_some h4
  injection h6 with h6
  subst h6
  have hx := gOf_sound hL x
  obtain ⟨⟨ad, cap, k1⟩, k2⟩ := slLen_some hx h1
  simp only [execOp, ho]
  rcases hS.elems hx h3 with ⟨e1, e2, e3⟩ | ⟨b, off, len, cp, e1, _, e2, e3, e4, e5⟩ | ⟨s', n', e1, _⟩
  · rw [k1] at e3
    injection e3 with e3 e3' _
    subst e3; subst e3'; subst e2
    have : n = 0 := by injection h5 with h5; exact h5.symm
    subst this
    refine ⟨?_, .str (by simp)⟩
    apply run_v
    rw [k1, run_convert_bytes_string w s t e _ _ _ hs he ht]
    rfl
  · rw [k1] at e1
    injection e1 with e1 e1' _
    subst e1
    rw [Nat.mul_one] at e2
    obtain ⟨bs, b1, b2, b3⟩ := bytesStr_some h5 e4
    rw [e2] at b2 b3
    refine ⟨?_, .str b2⟩
    apply run_v
    rw [k1, run_convert_bytes_string w s t e _ _ _ hs he ht]
    have hr := run_cells (P := P) (l := l.map (val ρ η)) (k := k) (by simp [e2]) e3
    have hv : l.map (val ρ η) = (bs.map (fun b => (b.toNat : Int))).map (Value.int .u8) := by rw [b1]; simp [val]
    rw [hv] at hr
    rw [run_bytesToString w _ k _ _ hr, foldl_push]
    simp [val, b3]
  · exact absurd e1 (k2 _ _)
/-! Maps. -/
theorem vm_tells {x : AV} {v : Value} {i : Nat} (h : Tells η ρ nx x v) (hx : x.vm = .map i) : v = .map (some (ρ.b i)) ∧ i < nx := by
  obtain rfl := vm_map hx
  obtain ⟨h1, h2⟩ := h.of (by simp)
  cases h1 with
  | map h3 => exact ⟨h2, h3⟩
theorem Sim.mp (h : Sim η base W ρ H w) {id : Nat} {l : List (AV × AV)} (hid : id < H.nx) (hm : H.mp id = some l) :
    (∀ p ∈ l, Wf ρ H.nx p.1 ∧ Wf ρ H.nx p.2) ∧ ∃ es clock, w.heap[ρ.b id]? = some (.map es clock) ∧ es.toList.map (fun e => (e.key, e.val)) = pairs ρ η l ∧ Born es clock := by
  obtain ⟨o, ho, h1⟩ := oget_some hm
  cases o with
  | row => cases h1
  | mp m =>
    injection h1 with h1
    subst h1
    obtain ⟨_, g⟩ := h.ob id _ hid ho
    exact ⟨g.wf, g.ex⟩
theorem len_map {o : Oper} {c : Call} {x : Operand} {t k e : TypeId} (ho : o.op = .call c) (hc : c.callee = .builtin .len) (ht : c.argTypes = #[t]) (hx : c.args = #[x]) (hu : P.underlying t = some (.map k e)) :
    LookOk P o fun L H => VM.rec none (some (.i64 0)) (fun id => Option.rec none (fun l => lenV (len l)) (H.mp id)) ((gOf x).g L).vm := by
  intro η base W ρ H w L a v hη hS hL h
  obtain ⟨cs, hcs⟩ := run_builtin (P := P) ho hc
  have hxt := gOf_sound hL x
  rw [hcs, ht, hx, map1]
  simp only [builtin]
  rcases vm_cases ((gOf x).g L) with ⟨h1, h2⟩ | ⟨i, h1, h2⟩ | h1 <;> simp only [h1] at h
  · injection h with h
    subst h
    have := (hxt.of (by rw [h2]; simp)).2
    rw [h2] at this
    refine ⟨?_, .i64 (by decide)⟩
    apply run_v
    rw [this]
    simp [Builtin.len_, run_underlying hu, val, goInt, iv64]
  · obtain ⟨l, g1, g2⟩ := oget_some h
    obtain ⟨rfl, g3⟩ := lenV_some g2
    obtain ⟨g4, g5⟩ := vm_tells hxt h1
    obtain ⟨_, es, clock, g6, g7, _⟩ := hS.mp g5 g1
    obtain ⟨v1, v2⟩ := val_len (ρ := ρ) (η := η) (nx := H.nx) g3
    refine ⟨?_, v2⟩
    apply run_v
    rw [g4, v1]
    have hl : es.size = len l := by
      have := congrArg List.length g7
      simpa [pairs, len_eq] using this
    simp [Builtin.len_, run_underlying hu, getObj, Sem.run, g6, hl]
  · cases h
end
end Go.Proofs.YtddcgoopgnogeaaGreatDoor.Ev
namespace Go.Proofs.YtddcgoopgnogeaaGreatDoor.Ev
open Go.RowKit (Below)
set_option linter.unusedVariables false
section
variable {P : Program} {η : Env} {base : Nat} {W w : World} {ρ : Ren} {H : Heap} {L : Loc} {a : Act} {nx : Nat}
theorem same_ok {kt : TypeId} {td : TypeDesc} {kd : LK} (hu : P.underlying kt = some td) (hk : leafK P kt = some kd) {x y : AV} {b : Bool} (hx : Wf ρ nx x) (hy : Wf ρ nx y) (h : eqK kd x y = some b) :
    Instr.sameNow td (val ρ η x) (val ρ η y) = some b := by
  unfold leafK at hk
  rw [hu] at hk
  cases td <;> first | (cases hk; done) | skip
  · injection hk with hk; subst hk
    obtain ⟨p, q, rfl, rfl, rfl⟩ := eqB_some h
    rfl
  · injection hk with hk; subst hk
    obtain ⟨k, p, q, h1, h2, rfl⟩ := eqI_some (η := η) hx hy h
    rw [h1, h2]
    simp [Instr.sameNow]
  · injection hk with hk; subst hk
    obtain ⟨p, q, h1, h2, rfl⟩ := eqS_some (η := η) hx hy h
    rw [h1, h2]
    simp only [Instr.sameNow]
    rw [beq_toListBytes]
theorem pairs_cons {l : List (AV × AV)} {p : AV × AV} {es : List MapEntry} (h : es.map (fun e => (e.key, e.val)) = pairs ρ η (p :: l)) :
    ∃ e es', es = e :: es' ∧ e.key = val ρ η p.1 ∧ e.val = val ρ η p.2 ∧ es'.map (fun e => (e.key, e.val)) = pairs ρ η l := by
  cases es with
  | nil => simp [pairs] at h
  | cons e es =>
    simp only [pairs, List.map_cons] at h
    injection h with h1 h2
    injection h1 with h3 h4
    exact ⟨e, es, rfl, h3, h4, h2⟩
theorem mget_ok {kt : TypeId} {td : TypeDesc} {kd : LK} (hu : P.underlying kt = some td) (hk : leafK P kt = some kd) {k : AV} (hkw : Wf ρ nx k) :
    ∀ (l : List (AV × AV)) (es : List MapEntry) (i : Nat) (r : Option AV), (∀ p ∈ l, Wf ρ nx p.1 ∧ Wf ρ nx p.2) → es.map (fun e => (e.key, e.val)) = pairs ρ η l → mget kd l k = some r →
      (∀ v, r = some v → Wf ρ nx v) ∧ ∃ j, Instr.findNow td (val ρ η k) es i = some (r.map fun v => (j, val ρ η v))
  | [], es, i, r, hw, he, h => by
    have : es = [] := by simpa [pairs] using he
    subst this
    injection h with h
    subst h
    exact ⟨fun v hv => (by cases hv), 0, rfl⟩
  | p :: l, es, i, r, hw, he, h => by
    obtain ⟨e, es, rfl, e1, e2, e3⟩ := pairs_cons he
    have h' : (Option.rec none (fun b => Bool.rec (mget kd l k) (some (some p.2)) b) (eqK kd k p.1) : Option (Option AV)) = some r := h
    obtain ⟨b, h1, h2⟩ := oget_some h'
    have hs := same_ok (η := η) hu hk hkw (hw p (by simp)).1 h1
    simp only [Instr.findNow, e1, hs]
    cases b with
    | true =>
      injection h2 with h2
      subst h2
      exact ⟨fun v hv => (by injection hv with hv; subst hv; exact (hw p (by simp)).2), i, by simp [e2]⟩
    | false =>
      exact mget_ok hu hk hkw l es (i + 1) r (fun q hq => hw q (by simp [hq])) e3 h2
theorem run_checkKey' {kt : TypeId} {kd : LK} (hk : leafK P kt = some kd) (em : Bool) (n : Nat) (v : Value) : (Instr.checkKey em (n + 1) kt v).run P w = .ok () w := by
  unfold leafK at hk
  cases hu : P.underlying kt with
  | none => rw [hu] at hk; cases hk
  | some td =>
    rw [hu] at hk
    cases td <;> first | (cases hk; done) | (simp [Instr.checkKey, run_underlying hu])
theorem run_checkKey {kt : TypeId} {kd : LK} (hk : leafK P kt = some kd) (em : Bool) (v : Value) : (Instr.checkKey em 10000 kt v).run P w = .ok () w := run_checkKey' hk em 9999 v
theorem lookOut_ok {z : AV} {r : Option AV} (cm : Bool) (hz : Wf ρ nx z) (hr : ∀ v, r = some v → Wf ρ nx v) :
    Wf ρ nx (lookOut z cm r) ∧ val ρ η (lookOut z cm r) = (if cm then .tuple #[(r.map (val ρ η)).getD (val ρ η z), .bool r.isSome] else (r.map (val ρ η)).getD (val ρ η z)) := by
  cases cm <;> cases r with
  | none => first
    | exact ⟨hz, rfl⟩
    | exact ⟨.tup (fun x hx => by rcases List.mem_cons.1 hx with rfl | hx; exact hz; rcases List.mem_singleton.1 hx with rfl; exact .bool _), by simp [lookOut, val, vals]⟩
  | some v => first
    | exact ⟨hr v rfl, rfl⟩
    | exact ⟨.tup (fun x hx => by rcases List.mem_cons.1 hx with rfl | hx; exact hr _ rfl; rcases List.mem_singleton.1 hx with rfl; exact .bool _), by simp [lookOut, val, vals]⟩
theorem eqK_known {kd : LK} {x y : AV} {b : Bool} (h : eqK kd x y = some b) : x ≠ .any := by
  cases kd with
  | b => obtain ⟨p, q, rfl, _⟩ := eqB_some h; simp
  | i => rintro rfl; cases h
  | s => rintro rfl; cases h
theorem lookup_ok {o : Oper} {t kt e : TypeId} {x i : Operand} {cm : Bool} {z : AV} {kd : LK} (ho : o.op = .lookup t x i cm) (hu : P.underlying t = some (.map kt e)) (hz : zeroOf P e = some z) (hk : leafK P kt = some kd) :
    LookOk P o fun L H => Bool.rec none (VM.rec none (some (lookOut z cm none)) (fun id => Option.rec none (fun l => Option.rec none (fun r => some (lookOut z cm r)) (mget kd l ((gOf i).g L))) (H.mp id)) ((gOf x).g L).vm) ((gOf i).g L).ok := by
  intro η base W ρ H w L a v hη hS hL h
  obtain ⟨hiok, h⟩ := brec_some h (by simp)
  obtain ⟨i1, i2⟩ := (gOf_sound hL i).ok hiok
  have hxt := gOf_sound hL x
  simp only [execOp, ho]
  have hzr := fun w => run_zeroOf (P := P) (w := w) (η := η) (ρ := ρ) (nx := H.nx) hz
  obtain ⟨td, htd⟩ : ∃ td, P.underlying kt = some td := by
    unfold leafK at hk
    cases hu : P.underlying kt with
    | none => rw [hu] at hk; cases hk
    | some td => exact ⟨td, rfl⟩
  rcases vm_cases ((gOf x).g L) with ⟨h1, h2⟩ | ⟨id, h1, h2⟩ | h1 <;> simp only [h1] at h
  · injection h with h
    subst h
    have := (hxt.of (by rw [h2]; simp)).2
    rw [h2] at this
    obtain ⟨r1, r2⟩ := lookOut_ok (η := η) (r := none) cm (hzr w).2.1 (fun v hv => by cases hv)
    refine ⟨?_, r1⟩
    apply run_v
    rw [this, r2]
    simp only [val, Instr.lookup, Sem.run_bind, run_underlying hu, Result.andThen_ok, Sem.run_pure, run_checkKey hk, Instr.findKey, run_underlying htd]
    simp [Instr.findNow, (hzr w).1]
  · obtain ⟨l, g1, g2⟩ := oget_some h
    obtain ⟨r, g3, g4⟩ := oget_some g2
    injection g4 with g4
    subst g4
    obtain ⟨g5, g6⟩ := vm_tells hxt h1
    obtain ⟨g7, es, clock, g8, g9, _⟩ := hS.mp g6 g1
    obtain ⟨m1, j, m2⟩ := mget_ok (η := η) htd hk i1 l es.toList 0 r g7 g9 g3
    obtain ⟨r1, r2⟩ := lookOut_ok (η := η) cm (hzr w).2.1 m1
    refine ⟨?_, r1⟩
    apply run_v
    rw [g5, r2, i2]
    have hget : (getObj (ρ.b id)).run P w = .ok (.map es clock) w := by simp [getObj, Sem.run, g8]
    simp only [Instr.lookup, Sem.run_bind, run_underlying hu, Result.andThen_ok, Sem.run_pure, hget, run_checkKey hk, Instr.findKey, run_underlying htd, m2]
    cases r with
    | none => simp [(hzr w).1]
    | some v => simp
  · cases h
end
end Go.Proofs.YtddcgoopgnogeaaGreatDoor.Ev
namespace Go.Proofs.YtddcgoopgnogeaaGreatDoor.Ev
open Go.RowKit (Below)
set_option linter.unusedVariables false
theorem put_list : ∀ (l : List AV) (d i : Nat) (t : Tr AV), i + l.length ≤ 2 ^ d →
    (∀ j, j < l.length → (List.rec (fun _ t => t) (fun v _ ih i t => ih (Nat.succ i) (t.putN v d i)) l i t : Tr AV).getN d (i + j) = l[j]?) ∧
    ∀ k, k < i → (List.rec (fun _ t => t) (fun v _ ih i t => ih (Nat.succ i) (t.putN v d i)) l i t : Tr AV).getN d k = t.getN d k
  | [], d, i, t, h => ⟨fun j hj => by simp at hj, fun k hk => rfl⟩
  | v :: l, d, i, t, h => by
    simp only [List.length_cons] at h
    obtain ⟨h1, h2⟩ := put_list l d (i + 1) (t.putN v d i) (by omega)
    refine ⟨fun j hj => ?_, fun k hk => ?_⟩
    · cases j with
      | zero =>
        refine (h2 i (by omega)).trans ?_
        rw [Tr.getN_putN_same]
        rfl
      | succ j =>
        have := h1 j (by simpa using hj)
        rw [show i + (j + 1) = i + 1 + j by omega]
        exact this.trans (by simp)
    · refine (h2 k (by omega)).trans ?_
      exact Tr.getN_putN_ne _ _ _ _ _ (by omega) (by omega) (by omega)
theorem trOf_get (d : Nat) (l : List AV) (h : l.length ≤ 2 ^ d) {j : Nat} (hj : j < l.length) : (trOf d l).getN d j = l[j]? := by
  have := (put_list l d 0 .nil (by omega)).1 j hj
  rwa [Nat.zero_add] at this
section
variable {P : Program} {η : Env} {base : Nat} {W w w' : World} {ρ : Ren} {H H' : Heap} {L : Loc} {a : Act} {nx : Nat}
/-- A row out of cells lies in a block that has them, from a place on. -/
theorem rowOf_ok {el es id : Nat} {l : List AV} {cs : Array Value} {fr : Nat × Nat} (hw : ∀ x ∈ l, Wf ρ nx x ∧ x.leaf = true) (hb : w.heap[ρ.b id]? = some (.cells cs el fr))
    (hc : ∀ (j : Nat) (x : AV), l[j]? = some x → cs[ρ.d id + j]? = some (val ρ η x)) (hn : ρ.d id + l.length ≤ cs.size) (hr : ρ.d id + ρ.c id * es ≤ cs.size)
    (hf : fr.2 ≤ fr.1 ∨ (ρ.d id + l.length ≤ fr.1 ∧ ρ.d id + ρ.c id * es ≤ fr.1)) (hv : es = 0 → ρ.d id = 0 ∧ cs.size = l.length) : ObOk ρ η nx w id (rowOf el es l) := by
  show RowOk ρ η nx w id el es (len l) (depth (len l)) (trOf (depth (len l)) l)
  rw [len_eq]
  have hd : l.length ≤ 2 ^ depth l.length := Nat.le_of_lt (lt_depth _)
  refine ⟨⟨hd, fun h0 => ⟨(hv h0).1, cs, fr, hb, (hv h0).2⟩⟩, cs, fr, hb, hn, hr, hf, fun i hi => ?_⟩
  have hx : l[i]? = some l[i] := List.getElem?_eq_getElem hi
  have hm : l[i] ∈ l := List.getElem_mem hi
  exact ⟨l[i], by rw [trOf_get _ _ hd hi, hx], (hw _ hm).1, (hw _ hm).2, hc i _ hx⟩
/-- What an operation that lays new rows does. -/
def NewOk (P : Program) (o : Oper) (f : Loc → Heap → Res) : Prop :=
  ∀ (η : Env) (base : Nat) (W : World) (ρ : Ren) (H : Heap) (w : World) (L : Loc) (a : Act) (v : AV) (H' : Heap), Leaves η → Sim η base W ρ H w → LocOk η ρ H.nx L a → f L H = .some v H' →
    ∃ ρ' w', (execOp a.eval o).run P w = .ok (.value (val ρ' η v)) w' ∧ Ext ρ ρ' H.nx ∧ Sim η base W ρ' H' w' ∧ Wf ρ' H'.nx v ∧ H'.nx = H.nx + 1 ∧ ∀ id, id < H.nx → H'.ob id = H.ob id
theorem Heap.new_ob {o : Ob} (h : H.new o = some H') : ∀ id, id < H.nx → H'.ob id = H.ob id := by
  obtain ⟨h1, rfl⟩ := Heap.new_some h
  intro id hid
  exact Tr.getN_putN_ne _ _ _ _ _ (by rw [pow15]; exact h1) (by rw [pow15]; omega) (by omega)
theorem heap_alloc_new (w : World) (o : Obj) : (w.alloc o).heap[w.heap.size]? = some o := by
  show (w.heap.push o)[w.heap.size]? = _
  simp
theorem heap_alloc_lt (w : World) (o : Obj) {k : Nat} (hk : k < w.heap.size) : (w.alloc o).heap[k]? = w.heap[k]? := by
  show (w.heap.push o)[k]? = _
  rw [Array.getElem?_push, if_neg (by omega)]
theorem run_vw {s : Sem Value} {u : Value} (h : s.run P w = .ok u w') : Sem.run P (do let __do_lift ← s; pure (Next.value __do_lift)) w = .ok (.value u) w' := by
  simp [h]
/-- A new block, and the row that tells its first cells. -/
theorem Sim.alloc (h : Sim η base W ρ H w) {el es c : Nat} {l : List AV} {cs : Array Value} {fr : Nat × Nat} (hn : H.new (rowOf el es l) = some H') (hw : ∀ x ∈ l, Wf ρ H.nx x ∧ x.leaf = true)
    (hc : ∀ (j : Nat) (x : AV), l[j]? = some x → cs[j]? = some (val ρ η x)) (hl : l.length ≤ cs.size) (hr : c * es ≤ cs.size) (hf : fr.2 ≤ fr.1 ∨ (l.length ≤ fr.1 ∧ c * es ≤ fr.1))
    (hd : w'.heap = w.heap.push (.cells cs el fr)) (h1 : w'.os = w.os) (h2 : w'.tape = w.tape) (h3 : w'.output = w.output) (hv : es = 0 → cs.size = l.length) :
    Ext ρ (ρ.new H.nx w.heap.size 0 c) H.nx ∧ Sim η base W (ρ.new H.nx w.heap.size 0 c) H' w' ∧ H'.nx = H.nx + 1 := by
  have he := Ren.new_ext ρ H.nx w.heap.size 0 c
  have eb : (ρ.new H.nx w.heap.size 0 c).b H.nx = w.heap.size := by simp [Ren.new]
  have ed : (ρ.new H.nx w.heap.size 0 c).d H.nx = 0 := by simp [Ren.new]
  have ec : (ρ.new H.nx w.heap.size 0 c).c H.nx = c := by simp [Ren.new]
  refine h.new hn h.hb (fun i oi hi hoi => ?_) (fun k hk hk' => ?_) (by rw [hd]; simp) h1 h2 h3 ?_
  · have := (h.ob i oi hi hoi).2.lt
    omega
  · rw [hd, Array.getElem?_push, if_neg (by omega)]
  · refine rowOf_ok (cs := cs) (fr := fr) (fun x hx => ⟨((hw x hx).1.ext η he (by omega)).1, (hw x hx).2⟩) ?_ ?_ ?_ ?_ ?_ (fun h0 => ⟨ed, hv h0⟩)
    · rw [eb, hd]; simp
    · intro j x hj
      rw [ed, Nat.zero_add, ((hw x (List.mem_of_getElem? hj)).1.ext (nx' := H.nx + 1) η he (by omega)).2]
      exact hc j x hj
    · rw [ed]; omega
    · rw [ed, ec]; omega
    · rw [ed, ec]; simpa using hf
theorem box1_some {o : Ob} {v x : AV} (h : box1 H o v = .some x H') : H.new o = some H' ∧ x = v := by
  unfold box1 at h
  obtain ⟨H1, h1, h2⟩ := ores_some h
  injection h2 with h2 h3
  subst h3
  exact ⟨h1, h2.symm⟩
theorem bres_some {b : Bool} {f : Res} {v : AV} (h : (Bool.rec .none f b : Res) = .some v H') : b = true ∧ f = .some v H' := by
  cases b
  · cases h
  · exact ⟨rfl, h⟩
theorem zero_cells (hη : Leaves η) {t : TypeId} {z : AV} (hz : zeroOf P t = some z) :
    ∃ i zv, P.info? t = some i ∧ i.zero = some zv ∧ zv.cells = (z.cells.map (val ρ η)).toArray ∧ (∀ x ∈ z.cells, Wf ρ nx x ∧ x.leaf = true) := by
  obtain ⟨i, zv, z1, z2, z3, z4, z5⟩ := zeroOf_some hz
  obtain ⟨z6, z7⟩ := abs_ok (ρ := ρ) (η := η) (nx := nx) z3 z4
  exact ⟨i, zv, z1, z2, by rw [z7]; exact cells_val hη z6, z6.cells z5⟩
theorem arr_get {l : List AV} {j : Nat} {x : AV} (h : l[j]? = some x) : (l.map (val ρ η)).toArray[j]? = some (val ρ η x) := by simp [h]
theorem alloc_ok {o : Oper} {t : TypeId} {n : Nat} {z : AV} (ho : o.op = .alloc t) (hz : zeroOf P t = some z) (hn : len z.cells = n) :
    NewOk P o fun _ H => box1 H (rowOf t 0 z.cells) (.ptr H.nx 0) := by
  intro η base W ρ H w L a v H' hη hS hL h
  obtain ⟨h1, rfl⟩ := box1_some h
  obtain ⟨i, zv, z1, z2, z3, z4⟩ := zero_cells (ρ := ρ) (nx := H.nx) hη hz
  rw [len_eq] at hn
  obtain ⟨e1, e2, e3⟩ := hS.alloc (w' := w.alloc (.cells zv.cells t)) (c := 1) (fr := (0, 0)) (cs := zv.cells) h1 z4 (fun j x hj => by rw [z3]; exact arr_get hj) (by rw [z3]; simp) (by simp) (.inl (by simp)) rfl rfl rfl rfl (fun _ => by rw [z3]; simp)
  refine ⟨_, _, ?_, e1, e2, .ptr (by omega), e3, Heap.new_ob h1⟩
  simp only [execOp, ho]
  apply run_vw
  simp [Instr.alloc, zeroValue, run_typeInfo w z1, z2, newVar, newRow, val, Ren.new]
theorem box_ok {o : Oper} {t : TypeId} {x : Operand} {n : Nat} (ho : o.op = .box t x) :
    NewOk P o fun L H => Bool.rec .none (box1 H (rowOf t 0 ((gOf x).g L).cells) (.ptr H.nx 0)) (and' (and' (Nat.beq (len ((gOf x).g L).cells) n) (leaves ((gOf x).g L).cells)) ((gOf x).g L).ok) := by
  intro η base W ρ H w L a v H' hη hS hL h
  obtain ⟨h1, h2⟩ := bres_some h
  obtain ⟨h3, rfl⟩ := box1_some h2
  rw [and'_eq, and'_eq, Bool.and_eq_true, Bool.and_eq_true] at h1
  obtain ⟨⟨g1, g2⟩, g3⟩ := h1
  have g1 := Nat.eq_of_beq_eq_true g1
  rw [len_eq] at g1
  obtain ⟨g4, g5⟩ := (gOf_sound hL x).ok g3
  have hc := cells_val hη g4
  obtain ⟨e1, e2, e3⟩ := hS.alloc (w' := w.alloc (.cells (val ρ η ((gOf x).g L)).cells t)) (c := 1) (fr := (0, 0)) (cs := (val ρ η ((gOf x).g L)).cells) h3 (g4.cells ((leaves_iff _).1 g2))
    (fun j y hj => by rw [hc]; exact arr_get hj) (by rw [hc]; simp) (by simp) (.inl (by simp)) rfl rfl rfl rfl (fun _ => by rw [hc]; simp)
  refine ⟨_, _, ?_, e1, e2, .ptr (by omega), e3, Heap.new_ob h3⟩
  simp only [execOp, ho]
  apply run_vw
  rw [g5]
  simp [Instr.box, newVar, newRow, val, Ren.new]
theorem makeMap_ok {o : Oper} {t : TypeId} (ho : o.op = .makeMap t none) : NewOk P o fun _ H => box1 H (.mp []) (.map H.nx) := by
  intro η base W ρ H w L a v H' hη hS hL h
  obtain ⟨h1, rfl⟩ := box1_some h
  obtain ⟨e1, e2, e3⟩ : Ext ρ (ρ.new H.nx w.heap.size 0 0) H.nx ∧ Sim η base W (ρ.new H.nx w.heap.size 0 0) H' (w.alloc (.map #[] 0)) ∧ H'.nx = H.nx + 1 := by
   refine hS.new (w' := w.alloc (.map #[] 0)) (b := w.heap.size) (d := 0) (c := 0) h1 hS.hb (fun i oi hi hoi => by have := (hS.ob i oi hi hoi).2.lt; omega)
    (fun k hk hk' => heap_alloc_lt _ _ hk') (by show w.heap.size ≤ (w.heap.push _).size; simp) rfl rfl rfl
    ⟨fun p hp => by simp at hp, #[], 0, ?_, by simp [pairs], by simp, by simp⟩
   have : (ρ.new H.nx w.heap.size 0 0).b H.nx = w.heap.size := by simp [Ren.new]
   rw [this]
   exact heap_alloc_new _ _
  refine ⟨_, _, ?_, e1, e2, .map (by omega), e3, Heap.new_ob h1⟩
  simp only [execOp, ho]
  apply run_vw
  simp [Instr.makeMap, val, Ren.new]
end
end Go.Proofs.YtddcgoopgnogeaaGreatDoor.Ev
namespace Go.Proofs.YtddcgoopgnogeaaGreatDoor.Ev
open Go.RowKit (Below)
set_option linter.unusedVariables false
theorem repL_length (z : List AV) (n : Nat) : (repL z n).length = n * z.length := by
  rw [repL_eq]; simp
theorem flatten_get (z : List Value) : ∀ (n i : Nat), i < n * z.length → (List.replicate n z).flatten[i]? = z[i % z.length]?
  | 0, i, h => by omega
  | n + 1, i, h => by
    rw [List.replicate_succ, List.flatten_cons, List.getElem?_append]
    by_cases hi : i < z.length
    · rw [if_pos hi, Nat.mod_eq_of_lt hi]
    · rw [if_neg hi, flatten_get z n (i - z.length) (by rw [Nat.succ_mul] at h; omega), ← Nat.mod_eq_sub_mod (by omega)]
theorem fillL_length {L : Loc} : ∀ (l : List (Nat × Nat × G)) (z c : List AV), fillL l L z = some c → c.length = z.length
  | [], z, c, h => by injection h with h; rw [h]
  | (off, n, g) :: l, z, c, h => by
    have h' : (Bool.rec none (fillL l L (over off (g.g L).cells z)) (and' (g.g L).ok (and' (and' (Nat.beq (len (g.g L).cells) n) (leaves (g.g L).cells)) (Nat.ble (Nat.add off n) (len z)))) : Option (List AV)) = some c := h
    obtain ⟨h3, h4⟩ := brec_some h' (by simp)
    rw [and'_eq, and'_eq, and'_eq, Bool.and_eq_true, Bool.and_eq_true, Bool.and_eq_true] at h3
    obtain ⟨h0, ⟨h5, h6⟩, h7⟩ := h3
    have h5 := Nat.eq_of_beq_eq_true h5
    have h7 : off + n ≤ len z := Nat.le_of_ble_eq_true h7
    rw [len_eq] at h5 h7
    rw [fillL_length l _ _ h4, over_eq]
    simp only [List.length_append, List.length_take, List.length_drop]
    omega
section
variable {P : Program} {η : Env} {base : Nat} {W w w' : World} {ρ : Ren} {H H' : Heap} {L : Loc} {a : Act} {nx : Nat}
/-- Zero elements, as the model lays them. -/
theorem zeros_eq {z : List AV} {n : Nat} : (Array.range (n * z.length)).map ((z.map (val ρ η)).toArray[· % (z.map (val ρ η)).toArray.size]!) = ((repL z n).map (val ρ η)).toArray := by
  apply Array.ext
  · simp [repL_length]
  · intro i h1 h2
    have hi : i < n * z.length := by simpa using h1
    have hz : 0 < z.length := Nat.pos_of_ne_zero (by rintro h; rw [h] at hi; omega)
    have hm := Nat.mod_lt i hz
    have e : ((repL z n).map (val ρ η))[i]? = (z.map (val ρ η))[i % z.length]? := by
      rw [repL_eq, List.map_flatten, List.map_replicate]
      have := flatten_get (z.map (val ρ η)) n i (by simpa using hi)
      simpa using this
    have h2' : i < ((repL z n).map (val ρ η)).length := by simpa using h2
    rw [List.getElem?_eq_getElem h2', List.getElem?_eq_getElem (by simpa using hm)] at e
    injection e with e
    simp only [Array.getElem_map, Array.getElem_range, List.getElem_toArray]
    rw [e]
    simp [hm]
theorem buildSlice_ok {o : Oper} {t e : TypeId} {n z : Nat} {ps : Array (Nat × Operand)} {zv : AV} {l : List (Nat × Nat × G)} (ho : o.op = .buildSlice t n ps) (ht : P.underlying t = some (.slice e))
    (hs : szOf P e = some z) (hz : zeroOf P e = some zv) (hl : places (ps.toList.map fun p => (p.1, gOf p.2)) (fun i => some (i * z, z)) = some l)
    (hc : and' (Nat.beq (len zv.cells) z) (and' (Nat.ble (Nat.mul n z) 16777216) (Nat.ble 1 (Nat.mul n z))) = true) :
    NewOk P o fun L H => Option.rec .none (fun c => box1 H (rowOf e z c) (.sl H.nx 0 n n)) (fillL l L (repL zv.cells n)) := by
  intro η base W ρ H w L a v H' hη hS hL h
  obtain ⟨c, h1, h2⟩ := ores_some h
  obtain ⟨h3, rfl⟩ := box1_some h2
  rw [and'_eq, and'_eq, Bool.and_eq_true, Bool.and_eq_true] at hc
  obtain ⟨c1, c2, c3⟩ := hc
  have c1 := Nat.eq_of_beq_eq_true c1
  have c2 : n * z ≤ 16777216 := Nat.le_of_ble_eq_true c2
  have c3 : 1 ≤ n * z := Nat.le_of_ble_eq_true c3
  rw [len_eq] at c1
  obtain ⟨i, v0, z1, z2, z3, z4⟩ := zero_cells (ρ := ρ) (nx := H.nx) hη hz
  obtain ⟨ie, e1, e2⟩ := szOf_some hs
  obtain rfl : ie = i := by rw [e1] at z1; injection z1
  have hrep : ∀ x ∈ repL zv.cells n, Wf ρ H.nx x ∧ x.leaf = true := by
    intro x hx
    rw [repL_eq, List.mem_flatten] at hx
    obtain ⟨y, hy, hxy⟩ := hx
    rw [List.eq_of_mem_replicate hy] at hxy
    exact z4 x hxy
  obtain ⟨f1, f2⟩ := fill_ok hη hL _ ps.toList l _ c hl h1 hrep
  have fl := fillL_length l _ c h1
  rw [repL_length, c1] at fl
  obtain ⟨k1, k2, k3⟩ := hS.alloc (w' := w.alloc (.cells (c.map (val ρ η)).toArray e)) (c := n) (fr := (0, 0)) (cs := (c.map (val ρ η)).toArray) h3 f2 (fun j x hj => arr_get hj) (by simp) (by simp [fl]) (.inl (by simp)) rfl rfl rfl rfl (fun h0 => absurd c3 (by rw [h0]; simp))
  refine ⟨_, _, ?_, k1, k2, .sl (by omega) (Nat.le_refl _), k3, Heap.new_ob h3⟩
  simp only [execOp, ho]
  apply run_vw
  rw [run_buildSlice w t e n _ (c.map (val ρ η)).toArray ie v0 ht e1 z2 (by rw [e2]; omega) (by rw [e2]; omega)]
  · simp [val, Ren.new]
  · rw [parts_map, e2, z3, ← c1, zeros_eq, c1]
    exact f1
theorem repl_row {el es n : Nat} {z : List AV} (hz : z.length = es) {l : List AV} (hn : l = repL z n) {id : Nat} {cs : Array Value} {fr : Nat × Nat} (hw : ∀ x ∈ z, Wf ρ nx x ∧ x.leaf = true)
    (hb : w.heap[ρ.b id]? = some (.cells cs el fr)) (hc : cs = (l.map (val ρ η)).toArray) (hd : ρ.d id = 0) (hcn : ρ.c id = n) (hf : fr.2 ≤ fr.1) : ObOk ρ η nx w id (zrow el es z n) := by
  have hl : l.length = n * es := by rw [hn, repL_length, hz]
  have hrep : ∀ x ∈ l, Wf ρ nx x ∧ x.leaf = true := by
    intro x hx
    rw [hn, repL_eq, List.mem_flatten] at hx
    obtain ⟨y, hy, hxy⟩ := hx
    rw [List.eq_of_mem_replicate hy] at hxy
    exact hw x hxy
  match z, hz with
  | [], hz =>
    show RowOk ρ η nx w id el es 0 0 .nil
    exact ⟨⟨by omega, fun _ => ⟨hd, cs, fr, hb, by rw [hc]; simp [hl, ← hz]⟩⟩, cs, fr, hb, by omega, by rw [hd, ← hz]; simp, .inl hf, fun i hi => by omega⟩
  | [v], hz =>
    show RowOk ρ η nx w id el es n (depth n) (fill v (depth n) n)
    have hs : cs.size = n := by rw [hc]; simp [hl, ← hz]
    refine ⟨⟨Nat.le_of_lt (lt_depth _), fun h0 => by rw [← hz] at h0; simp at h0⟩, cs, fr, hb, by omega, by rw [hd, hcn, hs, ← hz]; simp, .inl hf, fun i hi => ⟨v, getN_fill v _ _ _ hi (Nat.le_of_lt (lt_depth _)), (hw v (by simp)).1, (hw v (by simp)).2, ?_⟩⟩
    rw [hc, hd, Nat.zero_add]
    have : l = List.replicate n v := by
      rw [hn, repL_eq]
      clear hl hn hb hc hs hcn hrep hi i
      induction n with
      | zero => rfl
      | succ n ih => simp [List.replicate_succ, ih]
    rw [this]
    simp [hi]
  | _ :: _ :: _, hz =>
    rename_i x y r
    show ObOk ρ η nx w id (rowOf el es (repL (x :: y :: r) n))
    refine rowOf_ok (cs := cs) (fr := fr) (by rw [← hn]; exact hrep) hb (fun j u hj => ?_) ?_ ?_ (.inl hf) (fun h0 => by rw [← hz] at h0; simp at h0)
    · rw [hc, hd, Nat.zero_add, hn]; exact arr_get hj
    · rw [hc, hd, hn]; simp
    · rw [hc, hd, hcn]; simp [hl]
end
end Go.Proofs.YtddcgoopgnogeaaGreatDoor.Ev
namespace Go.Proofs.YtddcgoopgnogeaaGreatDoor.Ev
open Go.RowKit (Below)
set_option linter.unusedVariables false
section
variable {P : Program} {η : Env} {base : Nat} {W w w' : World} {ρ : Ren} {H H' : Heap} {L : Loc} {a : Act} {nx : Nat}
theorem makeSlice_ok {o : Oper} {t e : TypeId} {z by' : Nat} {l c : Operand} {zv : AV} (ho : o.op = .makeSlice t l c) (ht : P.underlying t = some (.slice e))
    (hs : szOf P e = some z) (hz : zeroOf P e = some zv) (hb : (P.info? e).map (·.bytes) = some by') (hc : Nat.beq (len zv.cells) z = true) :
    NewOk P o fun L H => Option.rec .none (fun l => Option.rec .none (fun c => Bool.rec .none (box1 H (zrow e z zv.cells c) (.sl H.nx 0 l c)) (and' (Nat.ble l c) (Nat.ble (Nat.mul c (Nat.add 1 by')) 1000000000))) ((gOf c).g L).vx) ((gOf l).g L).vx := by
  intro η base W ρ H w L a v H' hη hS hL h
  obtain ⟨n, h1, h2⟩ := ores_some h
  obtain ⟨m, h3, h4⟩ := ores_some h2
  obtain ⟨h5, h6⟩ := bres_some h4
  obtain ⟨h7, rfl⟩ := box1_some h6
  rw [and'_eq, Bool.and_eq_true] at h5
  obtain ⟨h8, h9⟩ := h5
  have h8 : n ≤ m := Nat.le_of_ble_eq_true h8
  have h9 : m * (1 + by') ≤ 1000000000 := Nat.le_of_ble_eq_true h9
  have c1 := Nat.eq_of_beq_eq_true hc
  rw [len_eq] at c1
  obtain ⟨i, v0, z1, z2, z3, z4⟩ := zero_cells (ρ := ρ) (nx := H.nx) hη hz
  obtain ⟨ie, e1, e2⟩ := szOf_some hs
  obtain rfl : ie = i := by rw [e1] at z1; injection z1
  rw [e1] at hb
  injection hb with hb
  obtain ⟨kl, g1⟩ := tells_idx (gOf_sound hL l) h1
  obtain ⟨kc, g2⟩ := tells_idx (gOf_sound hL c) h3
  have hm1 : m ≤ m * (1 + by') := Nat.le_mul_of_pos_right _ (by omega)
  have hm2 : by' * m ≤ m * (1 + by') := by rw [Nat.mul_comm]; exact Nat.mul_le_mul_left _ (by omega)
  have hb : ie.bytes = by' := hb
  have hbm : (ie.bytes : Int) * (m : Int) ≤ 281474976710656 := by
    rw [hb, ← Int.natCast_mul]
    omega
  have hr := run_make (P := P) w t e ie v0 ht e1 z2 kl kc n m (by omega) (by omega) hbm (by omega)
  have he := Ren.new_ext ρ H.nx w.heap.size 0 m
  have eb : (ρ.new H.nx w.heap.size 0 m).b H.nx = w.heap.size := by simp [Ren.new]
  have ed : (ρ.new H.nx w.heap.size 0 m).d H.nx = 0 := by simp [Ren.new]
  have ec : (ρ.new H.nx w.heap.size 0 m).c H.nx = m := by simp [Ren.new]
  have hcells : madeCells v0.cells (m * ie.size) = ((repL zv.cells m).map (val ρ η)).toArray := by
    unfold madeCells
    rw [z3, e2, ← c1, zeros_eq]
  obtain ⟨k1, k2, k3⟩ : Ext ρ (ρ.new H.nx w.heap.size 0 m) H.nx ∧ Sim η base W (ρ.new H.nx w.heap.size 0 m) H' (w.alloc (.cells (madeCells v0.cells (m * ie.size)) e)) ∧ H'.nx = H.nx + 1 := by
    refine hS.new h7 hS.hb (fun i oi hi hoi => ?_) (fun k hk hk' => heap_alloc_lt _ _ hk') (by show w.heap.size ≤ (w.heap.push _).size; simp) rfl rfl rfl ?_
    · have := (hS.ob i oi hi hoi).2.lt
      omega
    · refine repl_row c1 (l := repL zv.cells m) rfl (cs := madeCells v0.cells (m * ie.size)) (fr := (0, 0)) (fun x hx => ⟨((z4 x hx).1.ext η he (by omega)).1, (z4 x hx).2⟩) ?_ ?_ ed ec (by simp)
      · rw [eb]; exact heap_alloc_new _ _
      · rw [hcells]
        congr 1
        refine List.map_congr_left fun x hx => ?_
        rw [repL_eq, List.mem_flatten] at hx
        obtain ⟨y, hy, hxy⟩ := hx
        rw [List.eq_of_mem_replicate hy] at hxy
        exact (((z4 x hxy).1.ext (nx' := H.nx + 1) η he (by omega)).2).symm
  refine ⟨_, _, ?_, k1, k2, .sl (by omega) h8, k3, Heap.new_ob h7⟩
  simp only [execOp, ho]
  apply run_vw
  rw [g1, g2, hr]
  simp [val, Ren.new]
theorem bytesOf_cons (l n : Nat) : bytesOf (l + 1) n = UInt8.ofNat (n / 2 ^ (8 * l)) :: bytesOf l n := by
  unfold bytesOf
  rw [List.range_succ_eq_map, List.map_cons, List.map_map]
  congr 1
  · simp [byteAt, Nat.shiftRight_eq_div_pow]
  · refine List.map_congr_left fun i hi => ?_
    simp only [Function.comp, byteAt]
    rw [show l + 1 - 1 - (i + 1) = l - 1 - i by omega]
theorem strBytes_ok : ∀ (l n : Nat), (strBytes l n).map (val ρ η) = (bytesOf l n).map (fun b => Value.int .u8 b.toNat) ∧ ∀ x ∈ strBytes l n, Wf ρ nx x ∧ x.leaf = true
  | 0, n => ⟨rfl, fun x hx => by cases hx⟩
  | l + 1, n => by
    obtain ⟨h1, h2⟩ := strBytes_ok l n
    have e : strBytes (l + 1) n = .u8 (Nat.land (Nat.shiftRight n (Nat.mul 8 l)) 255) :: strBytes l n := rfl
    have hb : Nat.land (Nat.shiftRight n (Nat.mul 8 l)) 255 = n / 2 ^ (8 * l) % 256 := by
      show (n >>> (8 * l)) &&& 255 = _
      rw [Nat.shiftRight_eq_div_pow]
      exact Nat.and_two_pow_sub_one_eq_mod _ 8
    refine ⟨?_, fun x hx => ?_⟩
    · rw [e, hb, bytesOf_cons, List.map_cons, List.map_cons, h1]
      congr 1
    · rw [e] at hx
      rcases List.mem_cons.1 hx with rfl | hx
      · rw [hb]; exact ⟨.u8 (Nat.mod_lt _ (by decide)), rfl⟩
      · exact h2 x hx
end
end Go.Proofs.YtddcgoopgnogeaaGreatDoor.Ev
namespace Go.Proofs.YtddcgoopgnogeaaGreatDoor.Ev
open Go.RowKit (Below)
set_option linter.unusedVariables false
section
variable {P : Program}
theorem conv_open {o : Oper} {s t e : TypeId} {x : Operand} (ho : o.op = .convert s t x) (hs : P.underlying s = some .string) (ht : P.underlying t = some (.slice e)) (he : P.underlying e = some (.int .u8)) :
    NewOk P o fun L H => VS.rec .none (fun l n => openRow H e 1 (strBytes l n) l) ((gOf x).g L).vs := by
  intro η base W ρ H w L a v H' hη hS hL h
  have h : (VS.rec .none (fun l n => openRow H e 1 (strBytes l n) l) ((gOf x).g L).vs : Res) = .some v H' := h
  cases hv : ((gOf x).g L).vs with
  | no => rw [hv] at h; cases h
  | str l n =>
    rw [hv] at h
    have h : openRow H e 1 (strBytes l n) l = .some v H' := h
    obtain ⟨h1, rfl⟩ := box1_some h
    obtain ⟨g1, g2⟩ := tells_str (gOf_sound hL x) hv
    obtain ⟨s1, s2⟩ := strBytes_ok (ρ := ρ) (η := η) (nx := H.nx) l n
    have hlen : (strBytes l n).length = l := by
      have := congrArg List.length s1
      simpa using this
    have hsz : (⟨(bytesOf l n).toArray⟩ : ByteArray).size = l := size_bytes l n
    have hge : l ≤ grownCap w l 0 e := by simp [grownCap, Question.cut]
    have hrs : (bytesRow ⟨(bytesOf l n).toArray⟩ (grownCap w l 0 e)).size = grownCap w l 0 e := by
      unfold bytesRow
      rw [hsz]
      simp
      omega
    obtain ⟨k1, k2, k3⟩ := hS.alloc (w' := w.drew.alloc (.cells (bytesRow ⟨(bytesOf l n).toArray⟩ (grownCap w l 0 e)) e (grownCap w l 0 e, grownCap w l 0 e + 1))) (c := grownCap w l 0 e)
      (fr := (grownCap w l 0 e, grownCap w l 0 e + 1)) (cs := bytesRow ⟨(bytesOf l n).toArray⟩ (grownCap w l 0 e)) h1 s2 (fun j x hj => by
        have hm : ((bytesOf l n).map fun b => Value.int .u8 b.toNat)[j]? = some (val ρ η x) := by rw [← s1]; simp [hj]
        unfold bytesRow
        rw [Array.getElem?_append_left (by have := (List.getElem?_eq_some_iff.1 hm).1; simpa using this)]
        simpa using hm) (by rw [hrs, hlen]; exact hge) (by rw [hrs]; omega) (.inr ⟨by rw [hlen]; exact hge, by omega⟩) rfl rfl rfl rfl (fun h0 => by cases h0)
    refine ⟨_, _, ?_, k1, k2, .slo (by omega) (by simp [Ren.new]; omega), k3, Heap.new_ob h1⟩
    simp only [execOp, ho]
    apply run_vw
    rw [g1]
    have hr := run_bytes_of_string (P := P) w s t e ⟨(bytesOf l n).toArray⟩ hs ht he
    rw [hsz, hrs] at hr
    rw [hr]
    simp [val, Ren.new]
theorem look_sound0 {o : Oper} {f : Loc → Heap → Option AV} (h : opC0 P o.op = .look f) : LookOk P o f := by
  cases hop : o.op <;> rw [hop] at h
  case binOp op t x y t2 =>
    have h' : binOpI P op t x y = .look f := h
    unfold binOpI at h'
    clear h
    try unfold binOpC at h'
    repeat (first | cases h' | split at h')
  case unOp op t x =>
    have h' : unC P op t (gOf x) = .look f := h
    clear h
    try unfold unC at h'
    repeat (first | cases h' | split at h')
  case convert s t x =>
    have h' : convC P s t (gOf x) = .look f := h
    clear h
    unfold convC at h'
    split at h'
    · split at h' <;> cases h'
    · cases h'
    · split at h' <;> cases h'
    · rename_i e hs ht
      split at h'
      · rename_i he; injection h' with h'; subst h'; exact conv_bytes hop hs ht he
      · cases h'
    · cases h'
  case slice t x lo hi mx =>
    have h' : sliceC P t (gOf x) (lo.map gOf) (hi.map gOf) (mx.map gOf) = .look f := h
    clear h
    try unfold sliceC at h'
    repeat (first | cases h' | split at h')
    try unfold sliceC0 at h'
    repeat (first | cases h' | split at h')
    try unfold slicePtr at h'
    repeat (first | cases h' | split at h')
  case fieldAddr s x i =>
    have h' : fieldAddrC P s (gOf x) i = .look f := h
    clear h
    try unfold fieldAddrC at h'
    repeat (first | cases h' | split at h')
  case field s x i =>
    have h' : fieldC P s (gOf x) i = .look f := h
    clear h
    try unfold fieldC at h'
    repeat (first | cases h' | split at h')
  case indexAddr t x i =>
    have h' : indexAddrC P t (gOf x) (gOf i) = .look f := h
    clear h
    try unfold indexAddrC at h'
    repeat (first | cases h' | split at h')
  case index t x i =>
    have h' : indexC P t (gOf x) (gOf i) = .look f := h
    clear h
    try unfold indexC at h'
    repeat (first | cases h' | split at h')
  case build t ps =>
    have h' : buildC P t (ps.toList.map fun (i, x) => (i, gOf x)) = .look f := h
    clear h
    try unfold buildC at h'
    repeat (first | cases h' | split at h')
  case alloc t =>
    have h' : allocC P t = .look f := h
    clear h
    try unfold allocC at h'
    repeat (first | cases h' | split at h')
  case box t x =>
    have h' : boxC P t (gOf x) = .look f := h
    clear h
    try unfold boxC at h'
    repeat (first | cases h' | split at h')
  case buildSlice t n ps =>
    have h' : buildSliceC P t n (ps.toList.map fun (i, x) => (i, gOf x)) = .look f := h
    clear h
    try unfold buildSliceC at h'
    repeat (first | cases h' | split at h')
  case load t x =>
    have h' : loadC P t (gOf x) = .look f := h
    clear h
    unfold loadC at h'
    split at h'
    · rename_i hg; injection h' with h'; subst h'; exact load_leaf hop hg
    · rename_i n hg hz; injection h' with h'; subst h'; exact load_agg hop hg hz
    · cases h'
  case store t x y =>
    have h' : storeC P t (gOf x) (gOf y) = .look f := h
    clear h
    try unfold storeC at h'
    repeat (first | cases h' | split at h')
  case makeSlice t l c =>
    have h' : makeSliceC P t (gOf l) (gOf c) = .look f := h
    clear h
    try unfold makeSliceC at h'
    repeat (first | cases h' | split at h')
  case lookup t x i b =>
    have h' : lookupC P t (gOf x) (gOf i) b = .look f := h
    clear h
    unfold lookupC at h'
    split at h'
    · rename_i kt e hu
      split at h'
      · rename_i z kd hz hk; injection h' with h'; subst h'; exact lookup_ok hop hu hz hk
      · cases h'
    · cases h'
  case insert t m k v =>
    have h' : mapUpdateC P t (gOf m) (gOf k) (gOf v) = .look f := h
    clear h
    try unfold mapUpdateC at h'
    repeat (first | cases h' | split at h')
  case mapUpdate t m k v =>
    have h' : mapUpdateC P t (gOf m) (gOf k) (gOf v) = .look f := h
    clear h
    try unfold mapUpdateC at h'
    repeat (first | cases h' | split at h')
  case makeInterface t x =>
    have h' : makeIfaceC P t (gOf x) = .look f := h
    clear h
    try unfold makeIfaceC at h'
    repeat (first | cases h' | split at h')
  case call c =>
    have h' : callC P c = .look f := h
    clear h
    unfold callC at h'
    split at h'
    · rename_i b hc
      unfold builtinC at h'
      split at h'
      · rename_i t x ht hx
        obtain ⟨y, hy, rfl⟩ := single_map hx
        split at h'
        · cases h'
        · cases h'
        · split at h' <;> cases h'
        · cases h'
        · rename_i k e hu; injection h' with h'; subst h'; exact len_map hop hc (arr_of ht) (arr_of hy) hu
        · cases h'
      all_goals repeat (first | cases h' | split at h')
    · repeat (first | cases h' | split at h')
      try unfold extC at h'
      repeat (first | cases h' | split at h')
      try unfold callValC at h'
      repeat (first | cases h' | split at h')
    · cases h'
  case makeMap t r => cases r <;> cases h
  case makeFunc fn first captured =>
    cases fn with
    | func i =>
      have h' : makeFuncC i first.toList (captured.toList.map gOf) = .look f := h
      unfold makeFuncC at h'
      split at h' <;> cases h'
    | _ => cases h
  all_goals cases h
theorem new_sound0 {o : Oper} {f : Loc → Heap → Res} (h : opC0 P o.op = .new f) : NewOk P o f := by
  cases hop : o.op <;> rw [hop] at h
  case binOp op t x y t2 =>
    have h' : binOpI P op t x y = .new f := h
    unfold binOpI at h'
    clear h
    try unfold binOpC at h'
    repeat (first | cases h' | split at h')
  case unOp op t x =>
    have h' : unC P op t (gOf x) = .new f := h
    clear h
    try unfold unC at h'
    repeat (first | cases h' | split at h')
  case convert s t x =>
    have h' : convC P s t (gOf x) = .new f := h
    clear h
    unfold convC at h'
    split at h'
    · split at h' <;> cases h'
    · cases h'
    · rename_i e hs ht
      split at h'
      · rename_i he hz; injection h' with h'; subst h'; exact conv_open hop hs ht he
      · cases h'
    · split at h' <;> cases h'
    · cases h'
  case slice t x lo hi mx =>
    have h' : sliceC P t (gOf x) (lo.map gOf) (hi.map gOf) (mx.map gOf) = .new f := h
    clear h
    try unfold sliceC at h'
    repeat (first | cases h' | split at h')
    try unfold sliceC0 at h'
    repeat (first | cases h' | split at h')
    try unfold slicePtr at h'
    repeat (first | cases h' | split at h')
  case fieldAddr s x i =>
    have h' : fieldAddrC P s (gOf x) i = .new f := h
    clear h
    try unfold fieldAddrC at h'
    repeat (first | cases h' | split at h')
  case field s x i =>
    have h' : fieldC P s (gOf x) i = .new f := h
    clear h
    try unfold fieldC at h'
    repeat (first | cases h' | split at h')
  case indexAddr t x i =>
    have h' : indexAddrC P t (gOf x) (gOf i) = .new f := h
    clear h
    try unfold indexAddrC at h'
    repeat (first | cases h' | split at h')
  case index t x i =>
    have h' : indexC P t (gOf x) (gOf i) = .new f := h
    clear h
    try unfold indexC at h'
    repeat (first | cases h' | split at h')
  case build t ps =>
    have h' : buildC P t (ps.toList.map fun (i, x) => (i, gOf x)) = .new f := h
    clear h
    try unfold buildC at h'
    repeat (first | cases h' | split at h')
  case alloc t =>
    have h' : allocC P t = .new f := h
    clear h
    unfold allocC at h'
    split at h'
    · rename_i n z hs hz
      split at h'
      · rename_i hb
        injection h' with h'; subst h'; exact alloc_ok hop hz (Nat.eq_of_beq_eq_true hb)
      · cases h'
    · cases h'
  case box t x =>
    have h' : boxC P t (gOf x) = .new f := h
    clear h
    unfold boxC at h'
    split at h'
    · injection h' with h'; subst h'; exact box_ok hop
    · cases h'
  case buildSlice t n ps =>
    have h' : buildSliceC P t n (ps.toList.map fun (i, x) => (i, gOf x)) = .new f := h
    clear h
    unfold buildSliceC at h'
    split at h'
    · rename_i e ht
      split at h'
      · rename_i z zv l hs hz hl
        obtain ⟨zz, hz1, hl⟩ := Option.bind_eq_some_iff.1 hl
        rw [hs] at hz1
        injection hz1 with hz1
        subst hz1
        split at h'
        · rename_i hb
          injection h' with h'; subst h'; exact buildSlice_ok hop ht hs hz hl hb
        · cases h'
      · cases h'
    · cases h'
  case load t x =>
    have h' : loadC P t (gOf x) = .new f := h
    clear h
    try unfold loadC at h'
    repeat (first | cases h' | split at h')
  case store t x y =>
    have h' : storeC P t (gOf x) (gOf y) = .new f := h
    clear h
    try unfold storeC at h'
    repeat (first | cases h' | split at h')
  case makeSlice t l c =>
    have h' : makeSliceC P t (gOf l) (gOf c) = .new f := h
    clear h
    unfold makeSliceC at h'
    split at h'
    · rename_i e ht
      split at h'
      · rename_i z zv by' hs hz hb
        split at h'
        · rename_i hc
          injection h' with h'; subst h'; exact makeSlice_ok hop ht hs hz hb hc
        · cases h'
      · cases h'
    · cases h'
  case lookup t x i b =>
    have h' : lookupC P t (gOf x) (gOf i) b = .new f := h
    clear h
    try unfold lookupC at h'
    repeat (first | cases h' | split at h')
  case insert t m k v =>
    have h' : mapUpdateC P t (gOf m) (gOf k) (gOf v) = .new f := h
    clear h
    try unfold mapUpdateC at h'
    repeat (first | cases h' | split at h')
  case mapUpdate t m k v =>
    have h' : mapUpdateC P t (gOf m) (gOf k) (gOf v) = .new f := h
    clear h
    try unfold mapUpdateC at h'
    repeat (first | cases h' | split at h')
  case makeInterface t x =>
    have h' : makeIfaceC P t (gOf x) = .new f := h
    clear h
    try unfold makeIfaceC at h'
    repeat (first | cases h' | split at h')
  case call c =>
    have h' : callC P c = .new f := h
    clear h
    try unfold callC at h'
    repeat (first | cases h' | split at h')
    try unfold builtinC at h'
    repeat (first | cases h' | split at h')
    try unfold extC at h'
    repeat (first | cases h' | split at h')
    try unfold callValC at h'
    repeat (first | cases h' | split at h')
  case makeMap t r =>
    cases r with
    | some _ => cases h
    | none => injection h with h; subst h; exact makeMap_ok hop
  case makeFunc fn first captured =>
    cases fn with
    | func i =>
      have h' : makeFuncC i first.toList (captured.toList.map gOf) = .new f := h
      unfold makeFuncC at h'
      split at h' <;> cases h'
    | _ => cases h
  all_goals cases h
end
end Go.Proofs.YtddcgoopgnogeaaGreatDoor.Ev
namespace Go.Proofs.YtddcgoopgnogeaaGreatDoor.Ev
open Go.RowKit (Below)
set_option linter.unusedVariables false
section
variable {P : Program} {w : World} {η : Env} {ρ : Ren} {nx : Nat} {L : Loc} {a : Act}
/-! Values that are not known, told by bounds: each is one that is known. -/
theorem keyI_eq (n : Nat) : keyI n = (n + 9223372036854775808) % 18446744073709551616 := rfl
theorem atKey_of {k : Nat} (hk : k < 18446744073709551616) : ∃ n, n < 18446744073709551616 ∧ keyI n = k ∧ atKey k = iv64 n := by
  refine ⟨(k + 9223372036854775808) % 18446744073709551616, by omega, ?_, rfl⟩
  rw [keyI_eq]
  omega
theorem clampN_le {lo hi x : Nat} (h : lo ≤ hi) : lo ≤ clampN lo hi x ∧ clampN lo hi x ≤ hi := by
  unfold clampN
  omega
theorem holdS_size {lo hi : Nat} {s : ByteArray} (h : lo ≤ hi) : lo ≤ (holdS lo hi s).size ∧ (holdS lo hi s).size ≤ hi := by
  unfold holdS
  split
  · assumption
  · exact ⟨by simp [ByteArray.size], by simp [ByteArray.size]; exact h⟩
theorem pairV_ok (g fst : Bool) (x y : ByteArray) : Op.bytesLess (pairV g false x y).toList (pairV g true x y).toList = g ∧ (pairV g true x y).size ≤ 16 ∧ 1 ≤ (pairV g false x y).size ∧ (pairV g false x y).size ≤ 16 := by
  unfold pairV
  by_cases h : pairOk g x y
  · rw [if_pos h, if_pos h]
    exact ⟨h.2.2.2, h.1, h.2.1, h.2.2.1⟩
  · rw [if_neg h, if_neg h]
    cases g
    · exact ⟨by decide +kernel, by decide +kernel, by decide +kernel, by decide +kernel⟩
    · exact ⟨by decide +kernel, by decide +kernel, by decide +kernel, by decide +kernel⟩
/-- Any text is one that is known. -/
theorem str_conc (s : ByteArray) : ∃ n, n < 2 ^ (8 * s.size) ∧ Value.string s = val ρ η (.str s.size n) := by
  obtain ⟨h1, h2⟩ := bytesN_ok s.data.toList
  have hl : s.data.toList.length = s.size := Array.length_toList
  rw [hl] at h1 h2
  refine ⟨_, h1, ?_⟩
  simp only [val, h2]
theorem bs_conc {t : Sy} {lo hi : Nat} (h : t.bs = some (lo, hi)) : ∃ s : ByteArray, symV η.f t = .string s ∧ lo ≤ s.size ∧ s.size ≤ hi ∧ hi ≤ 4611686018427387904 := by
  unfold Sy.bs at h
  split at h
  · rename_i k l u
    obtain ⟨h1, h2⟩ := brec_some h (by simp)
    rw [and'_eq, Bool.and_eq_true] at h1
    injection h2 with h2
    injection h2 with h2 h3
    subst h2
    subst h3
    have hle := Nat.le_of_ble_eq_true h1.1
    exact ⟨_, rfl, (holdS_size hle).1, (holdS_size hle).2, Nat.le_of_ble_eq_true h1.2⟩
  · rename_i g f k j
    injection h with h
    injection h with h1 h2
    subst h2
    refine ⟨_, rfl, ?_, ?_, by decide⟩
    · obtain ⟨p1, p2, p3, p4⟩ := pairV_ok g f (strOf (η.f k)) (strOf (η.f j))
      subst h1
      cases g <;> cases f <;> first | exact Nat.zero_le _ | exact p3 | skip
      -- the first of a pair in which the second is less is not empty
      show 1 ≤ (pairV true true (strOf (η.f k)) (strOf (η.f j))).size
      apply Nat.one_le_iff_ne_zero.2
      intro h0
      generalize pairV true true (strOf (η.f k)) (strOf (η.f j)) = X at p1 h0
      rcases X with ⟨X⟩
      have h0 : X.size = 0 := h0
      rw [ByteArray.toList_mk, Array.size_eq_zero_iff.1 h0] at p1
      revert p1
      cases (pairV true false (strOf (η.f k)) (strOf (η.f j))).toList <;> simp [Op.bytesLess]
    · obtain ⟨p1, p2, p3, p4⟩ := pairV_ok g f (strOf (η.f k)) (strOf (η.f j))
      cases f
      · exact p4
      · exact p2
  · cases h
theorem bi_conc {t : Sy} {lo hi : Nat} (h : t.bi = some (lo, hi)) : ∃ n, n < 18446744073709551616 ∧ val ρ η (.sym t) = val ρ η (.i64 n) ∧ lo ≤ keyI n ∧ keyI n ≤ hi := by
  unfold Sy.bi at h
  split at h
  · rename_i k l u
    obtain ⟨h1, h2⟩ := brec_some h (by simp)
    rw [and'_eq, Bool.and_eq_true] at h1
    injection h2 with h2
    injection h2 with h2 h3
    subst h2
    subst h3
    have hle := Nat.le_of_ble_eq_true h1.1
    have hu : u ≤ 18446744073709551615 := Nat.le_of_ble_eq_true h1.2
    obtain ⟨c1, c2⟩ := clampN_le (x := keyOf (η.f k)) hle
    obtain ⟨n, n1, n2, n3⟩ := atKey_of (k := clampN l u (keyOf (η.f k))) (by omega)
    refine ⟨n, n1, ?_, by omega, by omega⟩
    simp only [val, symV, n3]
  · rename_i t'
    obtain ⟨b, h1, h2⟩ := oget_some h
    obtain ⟨l, u⟩ := b
    injection h2 with h2
    injection h2 with h2 h3
    subst h2
    subst h3
    obtain ⟨s, s1, s2, s3, s4⟩ := bs_conc (η := η) h1
    refine ⟨s.size, by omega, ?_, ?_, ?_⟩
    · simp only [val, symV, s1, strOf, iv64]
      rw [if_pos (by omega)]
    · show 9223372036854775808 + l ≤ keyI s.size
      rw [keyI_eq]
      omega
    · show keyI s.size ≤ 9223372036854775808 + u
      rw [keyI_eq]
      omega
  · cases h
theorem bdI_conc {x : AV} {b : Nat × Nat} (hx : Wf ρ nx x) (h : bdI x = some b) : ∃ n, n < 18446744073709551616 ∧ val ρ η x = val ρ η (.i64 n) ∧ b.1 ≤ keyI n ∧ keyI n ≤ b.2 := by
  unfold bdI at h
  split at h
  · rename_i n
    injection h with h
    subst h
    cases hx with
    | i64 hn =>
      refine ⟨n, hn, rfl, ?_, ?_⟩
      · dsimp only; exact Nat.le_refl _
      · dsimp only; exact Nat.le_refl _
  · obtain ⟨lo, hi⟩ := b
    exact bi_conc h
  · cases h
theorem bdS_conc {x : AV} {b : Nat × Nat} (hx : Wf ρ nx x) (h : bdS x = some b) : ∃ l n, n < 2 ^ (8 * l) ∧ val ρ η x = val ρ η (.str l n) ∧ b.1 ≤ l ∧ l ≤ b.2 := by
  unfold bdS at h
  split at h
  · rename_i l n
    injection h with h
    subst h
    exact ⟨l, n, hx.str_lt, rfl, Nat.le_refl _, Nat.le_refl _⟩
  · obtain ⟨lo, hi⟩ := b
    obtain ⟨s, s1, s2, s3, s4⟩ := bs_conc (η := η) h
    obtain ⟨n, n1, n2⟩ := str_conc (ρ := ρ) (η := η) s
    refine ⟨s.size, n, n1, ?_, s2, s3⟩
    rw [← n2]
    simp only [val, s1]
  · cases h
theorem ltB_ok {a b : Nat × Nat} {r : Bool} {p q : Nat} (h : ltB a b = some r) (h1 : a.1 ≤ p) (h2 : p ≤ a.2) (h3 : b.1 ≤ q) (h4 : q ≤ b.2) : r = Nat.ble (p + 1) q := by
  unfold ltB at h
  cases hb : Nat.ble (Nat.succ a.2) b.1 with
  | true =>
    rw [hb] at h
    injection h with h
    have := Nat.le_of_ble_eq_true hb
    rw [← h, Nat.ble_eq_true_of_le (by omega)]
  | false =>
    rw [hb] at h
    obtain ⟨h5, h6⟩ := brec_some h (by simp)
    injection h6 with h6
    have := Nat.le_of_ble_eq_true h5
    rw [← h6]
    cases hc : Nat.ble (p + 1) q with
    | false => rfl
    | true => have := Nat.le_of_ble_eq_true hc; omega
theorem neB_ok {a b : Nat × Nat} {r : Bool} {p q : Nat} (h : neB a b = some r) (h1 : a.1 ≤ p) (h2 : p ≤ a.2) (h3 : b.1 ≤ q) (h4 : q ≤ b.2) : r = true ∧ p ≠ q := by
  unfold neB at h
  cases hb : Nat.ble (Nat.succ a.2) b.1 with
  | true =>
    rw [hb] at h
    injection h with h
    have := Nat.le_of_ble_eq_true hb
    exact ⟨h.symm, by omega⟩
  | false =>
    rw [hb] at h
    obtain ⟨h5, h6⟩ := brec_some h (by simp)
    injection h6 with h6
    have := Nat.le_of_ble_eq_true h5
    exact ⟨h6.symm, by omega⟩
theorem boolV_some {x : Option Bool} {v : AV} (h : boolV x = some v) : ∃ b, x = some b ∧ v = .bool b := by
  obtain ⟨b, h1, h2⟩ := oget_some h
  injection h2 with h2
  exact ⟨b, h1, h2.symm⟩
theorem notO_some {x : Option Bool} {b : Bool} (h : notO x = some b) : ∃ c, x = some c ∧ b = not' c := by
  obtain ⟨c, h1, h2⟩ := oget_some h
  injection h2 with h2
  exact ⟨c, h1, h2.symm⟩
theorem kC64 : ∃ K, kC .i64 = some K ∧ K.of = AV.i64 ∧ (∀ n, K.key n = keyI n) ∧ (∀ n, K.v (.i64 n) = some n) ∧ K.m = 18446744073709551616 := by
  refine ⟨_, rfl, rfl, fun n => ?_, fun _ => rfl, rfl⟩
  show (n + 9223372036854775808) % 18446744073709551616 = keyI n
  exact (keyI_eq n).symm
/-- What the known operation tells at the known values. -/
theorem symCmp_conc {op : BinOp} {a b : Nat × Nat} {r : Bool} {p q : Nat} (h : symCmp op a b = some r) (h1 : a.1 ≤ keyI p) (h2 : keyI p ≤ a.2) (h3 : b.1 ≤ keyI q) (h4 : keyI q ≤ b.2) {K : KC} (hv : ∀ n, K.v (.i64 n) = some n) (hkey : ∀ n, K.key n = keyI n) :
    intBin op K (.i64 p) (.i64 q) = some (.bool r) := by
  have hop : ∀ f : Nat → Nat → AV, intOp K.v f (.i64 p) (.i64 q) = some (f p q) := fun f => by unfold intOp; rw [hv, hv]
  generalize hkp : keyI p = kp at h1 h2
  generalize hkq : keyI q = kq at h3 h4
  unfold symCmp at h
  split at h
  · rw [ltB_ok h h1 h2 h3 h4, ← hkp, ← hkq, ← hkey, ← hkey]
    exact hop _
  · obtain ⟨c, g1, rfl⟩ := notO_some h
    have := ltB_ok g1 h1 h2 h3 h4
    subst this
    have e : not' (Nat.ble (kp + 1) kq) = Nat.ble kq kp := by
      rw [not'_eq, ble_eq, ble_eq, ← decide_not, decide_eq_decide]
      omega
    rw [e, ← hkp, ← hkq, ← hkey, ← hkey]
    exact hop _
  · rw [ltB_ok h h3 h4 h1 h2, ← hkp, ← hkq, ← hkey, ← hkey]
    exact hop _
  · obtain ⟨c, g1, rfl⟩ := notO_some h
    have := ltB_ok g1 h3 h4 h1 h2
    subst this
    have e : not' (Nat.ble (kq + 1) kp) = Nat.ble kp kq := by
      rw [not'_eq, ble_eq, ble_eq, ← decide_not, decide_eq_decide]
      omega
    rw [e, ← hkp, ← hkq, ← hkey, ← hkey]
    exact hop _
  · obtain ⟨c, g1, rfl⟩ := notO_some h
    obtain ⟨rfl, g2⟩ := neB_ok g1 h1 h2 h3 h4
    have e : not' true = Nat.beq p q := by
      rw [beq_eq, decide_eq_false (fun e => g2 (by rw [← hkp, ← hkq, e]))]
      rfl
    rw [e]
    exact hop _
  · obtain ⟨rfl, g2⟩ := neB_ok h h1 h2 h3 h4
    have e : true = not' (Nat.beq p q) := by
      rw [beq_eq, decide_eq_false (fun e => g2 (by rw [← hkp, ← hkq, e]))]
      rfl
    rw [e]
    exact hop _
  · cases h
theorem bdI_any {x : AV} {b : Nat × Nat} (h : bdI x = some b) : x ≠ .any := by rintro rfl; cases h
theorem bdS_any {x : AV} {b : Nat × Nat} (h : bdS x = some b) : x ≠ .any := by rintro rfl; cases h
theorem binC_int {op : BinOp} {t : TypeId} {K : KC} (hu : P.underlying t = some (.int .i64)) (hK : kC .i64 = some K) : binC P op t = some (intBin op K) := by
  unfold binC
  rw [hu]
  simp [hK]
theorem binC_str {op : BinOp} {t : TypeId} (hu : P.underlying t = some .string) : binC P op t = strBin op := by
  unfold binC
  rw [hu]
theorem symBin_ok {o : Oper} {op : BinOp} {t t' : TypeId} {x y : Operand} {g : Loc → Option AV} (ho : o.op = .binOp op t x y t') (hg : symBin P op t (gOf x) (gOf y) = some g) : PurOk P o g := by
  unfold symBin at hg
  split at hg
  · rename_i hu
    injection hg with hg
    subst hg
    intro η ρ nx L a v hη hL h
    obtain ⟨b1, e1, h⟩ := oget_some h
    obtain ⟨b2, e2, h⟩ := oget_some h
    replace h : boolV (symCmp op b1 b2) = some v := h
    obtain ⟨r, h9, rfl⟩ := boolV_some h
    clear h
    obtain ⟨g1, g2⟩ := (gOf_sound hL x).of (bdI_any e1)
    obtain ⟨g3, g4⟩ := (gOf_sound hL y).of (bdI_any e2)
    obtain ⟨p, p1, p2, p3, p4⟩ := bdI_conc (η := η) g1 e1
    obtain ⟨q, q1, q2, q3, q4⟩ := bdI_conc (η := η) g3 e2
    obtain ⟨K, hK, _, hkey, hv, _⟩ := kC64
    have hr := fun w => run_binC (P := P) (w := w) (η := η) (ρ := ρ) (nx := nx) (binC_int hu hK) (.i64 p1) (.i64 q1) (symCmp_conc h9 p3 p4 q3 q4 hv hkey) x y
    refine ⟨_, fun w => ?_, Tells.val (hr default).2⟩
    simp only [execOp, ho]
    apply run_v
    rw [g2, g4, p2, q2]
    exact (hr w).1
  · rename_i hu
    injection hg with hg
    subst hg
    intro η ρ nx L a v hη hL h
    have go : ∀ (f : AV → AV → Option AV) (l n l' n' : Nat) (r : Bool), strBin op = some f → n < 2 ^ (8 * l) → n' < 2 ^ (8 * l') → a.eval x = val ρ η (.str l n) → a.eval y = val ρ η (.str l' n') → f (.str l n) (.str l' n') = some (.bool r) →
        ∃ u, (∀ w, (execOp a.eval o).run P w = .ok (.value u) w) ∧ Tells η ρ nx (.bool r) u := by
      intro f l n l' n' r hf w1 w2 ex ey hr
      have hr := fun w => run_binC (P := P) (w := w) (η := η) (ρ := ρ) (nx := nx) ((binC_str hu).trans hf) (.str w1) (.str w2) hr x y
      refine ⟨_, fun w => ?_, Tells.val (hr default).2⟩
      simp only [execOp, ho]
      apply run_v
      rw [ex, ey]
      exact (hr w).1
    have ne : ∀ {r : Bool}, symNe ((gOf x).g L) ((gOf y).g L) = some r → ∃ l n l' n', n < 2 ^ (8 * l) ∧ n' < 2 ^ (8 * l') ∧ a.eval x = val ρ η (.str l n) ∧ a.eval y = val ρ η (.str l' n') ∧ strEq l n l' n' = false ∧ r = true := by
      intro r hne
      obtain ⟨b1, e1, hne⟩ := oget_some hne
      obtain ⟨b2, e2, hne⟩ := oget_some hne
      obtain ⟨g1, g2⟩ := (gOf_sound hL x).of (bdS_any e1)
      obtain ⟨g3, g4⟩ := (gOf_sound hL y).of (bdS_any e2)
      obtain ⟨l, n, p1, p2, p3, p4⟩ := bdS_conc (η := η) g1 e1
      obtain ⟨l', n', q1, q2, q3, q4⟩ := bdS_conc (η := η) g3 e2
      obtain ⟨rfl, hll⟩ := neB_ok hne p3 p4 q3 q4
      refine ⟨l, n, l', n', p1, q1, g2.trans p2, g4.trans q2, ?_, rfl⟩
      unfold strEq
      rw [show Nat.beq l l' = false by rw [beq_eq, decide_eq_false hll]]
    replace h : symS op ((gOf x).g L) ((gOf y).g L) = some v := h
    unfold symS at h
    split at h
    · obtain ⟨r, h9, rfl⟩ := boolV_some h
      obtain ⟨c, h8, rfl⟩ := notO_some h9
      obtain ⟨l, n, l', n', w1, w2, e1, e2, e3, rfl⟩ := ne h8
      exact go _ l n l' n' _ rfl w1 w2 e1 e2 (by show some (AV.bool (strEq l n l' n')) = _; rw [e3]; rfl)
    · obtain ⟨r, h9, rfl⟩ := boolV_some h
      obtain ⟨l, n, l', n', w1, w2, e1, e2, e3, rfl⟩ := ne h9
      exact go _ l n l' n' _ rfl w1 w2 e1 e2 (by show some (AV.bool (not' (strEq l n l' n'))) = _; rw [e3]; rfl)
    · obtain ⟨r, h9, rfl⟩ := boolV_some h
      clear h
      unfold symGt at h9
      split at h9
      · rename_i g k j g' k' j' hx hy
        obtain ⟨h1, h2⟩ := brec_some h9 (by simp)
        injection h2 with h2
        subst h2
        rw [and'_eq, and'_eq, Bool.and_eq_true, Bool.and_eq_true] at h1
        obtain ⟨h1, h3, h4⟩ := h1
        obtain rfl := Nat.eq_of_beq_eq_true h3
        obtain rfl := Nat.eq_of_beq_eq_true h4
        have hgg : g = g' := by cases g <;> cases g' <;> first | rfl | cases h1
        subst hgg
        obtain ⟨g1, g2⟩ := (gOf_sound hL x).of (by rw [hx]; simp)
        obtain ⟨g3, g4⟩ := (gOf_sound hL y).of (by rw [hy]; simp)
        rw [hx] at g2
        rw [hy] at g4
        obtain ⟨n, n1, n2⟩ := str_conc (ρ := ρ) (η := η) (pairV g true (strOf (η.f k)) (strOf (η.f j)))
        obtain ⟨n', n1', n2'⟩ := str_conc (ρ := ρ) (η := η) (pairV g false (strOf (η.f k)) (strOf (η.f j)))
        refine go _ _ n _ n' g rfl n1 n1' (g2.trans ?_) (g4.trans ?_) ?_
        · rw [← n2]; simp only [val, symV]
        · rw [← n2']; simp only [val, symV]
        · show some (AV.bool (strLt _ n' _ n)) = _
          rw [← bytesLess_of n1' n1]
          have e1 : (pairV g true (strOf (η.f k)) (strOf (η.f j))).toList = bytesOf (pairV g true (strOf (η.f k)) (strOf (η.f j))).size n := by
            have := n2
            simp only [val] at this
            injection this with this
            conv => lhs; rw [this]
            rw [ByteArray.toList_mk]
          have e2 : (pairV g false (strOf (η.f k)) (strOf (η.f j))).toList = bytesOf (pairV g false (strOf (η.f k)) (strOf (η.f j))).size n' := by
            have := n2'
            simp only [val] at this
            injection this with this
            conv => lhs; rw [this]
            rw [ByteArray.toList_mk]
          rw [← e1, ← e2, (pairV_ok g true _ _).1]
      · cases h9
    · cases h
  · cases hg
theorem list2 {α : Type} {a : Array α} {x y : α} (h : a.toList = [x, y]) : a = #[x, y] := by cases a; simp_all
theorem list1 {α : Type} {a : Array α} {x : α} (h : a.toList = [x]) : a = #[x] := by cases a; simp_all
theorem symCall_ok {o : Oper} {c : Call} {g : Loc → Option AV} (ho : o.op = .call c) (hg : symCall P c = some g) : PurOk P o g := by
  unfold symCall at hg
  split at hg
  · rename_i t x hc ht hx
    split at hg
    · rename_i hu
      injection hg with hg
      subst hg
      intro η ρ nx L a v hη hL h
      have h : symLen ((gOf x).g L) = some v := h
      unfold symLen at h
      split at h
      · rename_i s hs
        obtain ⟨b, h1, h2⟩ := oget_some h
        injection h2 with h2
        subst h2
        obtain ⟨g1, g2⟩ := (gOf_sound hL x).of (by rw [hs]; simp)
        rw [hs] at g2
        obtain ⟨z, s1, s2, s3, s4⟩ := bs_conc (η := η) (lo := b.1) (hi := b.2) h1
        have g2 : a.eval x = .string z := by rw [g2]; simp only [val, s1]
        refine ⟨val ρ η (.sym (.len s)), fun w => ?_, Tells.val (.sym _)⟩
        obtain ⟨cs, hcs⟩ := run_builtin (P := P) ho hc
        rw [hcs, list1 ht, list1 hx]
        simp only [builtin]
        apply run_v
        simp [Builtin.len_, run_underlying hu, g2, val, symV, s1, strOf, goInt]
      · cases h
    · cases hg
  · rename_i t ts x y hc ht hx
    split at hg
    · rename_i hu
      injection hg with hg
      subst hg
      intro η ρ nx L a v hη hL h
      obtain ⟨b1, e1, h⟩ := oget_some h
      obtain ⟨b2, e2, h⟩ := oget_some h
      obtain ⟨g1, g2⟩ := (gOf_sound hL x).of (bdI_any e1)
      obtain ⟨g3, g4⟩ := (gOf_sound hL y).of (bdI_any e2)
      obtain ⟨p, p1, p2, p3, p4⟩ := bdI_conc (η := η) g1 e1
      obtain ⟨q, q1, q2, q3, q4⟩ := bdI_conc (η := η) g3 e2
      obtain ⟨K, hK, hof, hkey, _, hKm⟩ := kC64
      have hkk := kOk hK
      have hp : p < K.m := by rw [hKm]; exact p1
      have hq : q < K.m := by rw [hKm]; exact q1
      have vp : ∀ n, n < K.m → val ρ η (.i64 n) = .int .i64 (K.iv n) := fun n hn => by rw [← hof]; exact hkk.valof ρ η n hn
      have run : ∀ w, (execOp a.eval o).run P w = .ok (.value (.int .i64 (K.iv (maxI K p q)))) w := fun w => by
        obtain ⟨cs, hcs⟩ := run_builtin (P := P) ho hc
        rw [hcs]
        simp only [builtin]
        apply run_v
        simp only [Builtin.max_, Array.toList_map, hx, List.map_cons, List.map_nil, g2, g4, p2, q2, vp p hp, vp q hq]
        rw [(maxI_ok hkk hp hq).1]
        simp [Builtin.max2]
      have hm : maxI K p q = if keyI p < keyI q then q else p := by
        unfold maxI
        rw [hkey, hkey, ble_eq]
        by_cases hlt : keyI p < keyI q
        · rw [if_pos hlt, decide_eq_true (by omega)]
        · rw [if_neg hlt, decide_eq_false (by omega)]
      cases hb : Nat.ble b2.2 b1.1 with
      | true =>
        rw [hb] at h
        injection h with h
        subst h
        have := Nat.le_of_ble_eq_true hb
        rw [if_neg (by omega)] at hm
        rw [hm] at run
        exact ⟨_, run, .inr ⟨g1, by rw [p2, vp p hp]⟩⟩
      | false =>
        rw [hb] at h
        obtain ⟨h5, h6⟩ := brec_some h (by simp)
        injection h6 with h6
        subst h6
        have := Nat.le_of_ble_eq_true h5
        by_cases hlt : keyI p < keyI q
        · rw [if_pos hlt] at hm
          rw [hm] at run
          exact ⟨_, run, .inr ⟨g3, by rw [q2, vp q hq]⟩⟩
        · rw [if_neg hlt] at hm
          rw [hm] at run
          have hpq : p = q := by
            have hh : keyI p = keyI q := by omega
            rw [keyI_eq, keyI_eq] at hh
            omega
          exact ⟨_, run, .inr ⟨g3, by rw [q2, vp q hq, hpq]⟩⟩
    · cases hg
  · rename_i t ts x y hc ht hx
    split at hg
    · rename_i hu
      injection hg with hg
      subst hg
      intro η ρ nx L a v hη hL h
      obtain ⟨b1, e1, h⟩ := oget_some h
      obtain ⟨b2, e2, h⟩ := oget_some h
      obtain ⟨g1, g2⟩ := (gOf_sound hL x).of (bdI_any e1)
      obtain ⟨g3, g4⟩ := (gOf_sound hL y).of (bdI_any e2)
      obtain ⟨p, p1, p2, p3, p4⟩ := bdI_conc (η := η) g1 e1
      obtain ⟨q, q1, q2, q3, q4⟩ := bdI_conc (η := η) g3 e2
      obtain ⟨K, hK, hof, hkey, _, hKm⟩ := kC64
      have hkk := kOk hK
      have hp : p < K.m := by rw [hKm]; exact p1
      have hq : q < K.m := by rw [hKm]; exact q1
      have vp : ∀ n, n < K.m → val ρ η (.i64 n) = .int .i64 (K.iv n) := fun n hn => by rw [← hof]; exact hkk.valof ρ η n hn
      have run : ∀ w, (execOp a.eval o).run P w = .ok (.value (.int .i64 (K.iv (minI K p q)))) w := fun w => by
        obtain ⟨cs, hcs⟩ := run_builtin (P := P) ho hc
        rw [hcs]
        simp only [builtin]
        apply run_v
        simp only [Builtin.min_, Array.toList_map, hx, List.map_cons, List.map_nil, g2, g4, p2, q2, vp p hp, vp q hq]
        rw [(minI_ok hkk hp hq).1]
        simp [Builtin.min2]
      have hm : minI K p q = if keyI q < keyI p then q else p := by
        unfold minI
        rw [hkey, hkey, ble_eq]
        by_cases hlt : keyI q < keyI p
        · rw [if_pos hlt, decide_eq_true (by omega)]
        · rw [if_neg hlt, decide_eq_false (by omega)]
      cases hb : Nat.ble b1.2 b2.1 with
      | true =>
        rw [hb] at h
        injection h with h
        subst h
        have := Nat.le_of_ble_eq_true hb
        rw [if_neg (by omega)] at hm
        rw [hm] at run
        exact ⟨_, run, .inr ⟨g1, by rw [p2, vp p hp]⟩⟩
      | false =>
        rw [hb] at h
        obtain ⟨h5, h6⟩ := brec_some h (by simp)
        injection h6 with h6
        subst h6
        have := Nat.le_of_ble_eq_true h5
        by_cases hlt : keyI q < keyI p
        · rw [if_pos hlt] at hm
          rw [hm] at run
          exact ⟨_, run, .inr ⟨g3, by rw [q2, vp q hq]⟩⟩
        · rw [if_neg hlt] at hm
          rw [hm] at run
          have hpq : p = q := by
            have hh : keyI p = keyI q := by omega
            rw [keyI_eq, keyI_eq] at hh
            omega
          exact ⟨_, run, .inr ⟨g3, by rw [q2, vp q hq, hpq]⟩⟩
    · cases hg
  · cases hg
theorem orC_cases (c : OpC) (g : Option (Loc → Option AV)) : orC c g = c ∨ ∃ f0 g0, c = .pur f0 ∧ g = some g0 ∧ orC c g = .pur fun L => Option.rec (g0 L) (fun v => some v) (f0 L) := by
  cases c <;> cases g <;> first | exact .inl rfl | exact .inr ⟨_, _, rfl, rfl, rfl⟩
theorem opC_cases (o : Op) : opC P o = opC0 P o ∨ ∃ (f0 g0 : Loc → Option AV), opC0 P o = .pur f0 ∧ opC P o = .pur fun L => Option.rec (g0 L) (fun v => some v) (f0 L) := by
  unfold opC
  split
  · rcases orC_cases (opC0 P (Op.binOp _ _ _ _ _)) (symBin P _ _ _ _) with h | ⟨f0, g0, h1, _, h2⟩
    · exact .inl h
    · exact .inr ⟨f0, g0, h1, h2⟩
  · rcases orC_cases (opC0 P (Op.call _)) (symCall P _) with h | ⟨f0, g0, h1, _, h2⟩
    · exact .inl h
    · exact .inr ⟨f0, g0, h1, h2⟩
  · exact .inl rfl
theorem PurOk.or {o : Oper} {f g : Loc → Option AV} (hf : PurOk P o f) (hg : PurOk P o g) : PurOk P o fun L => Option.rec (g L) (fun v => some v) (f L) := by
  intro η ρ nx L a v hη hL h
  cases hfl : f L with
  | none => simp only [hfl] at h; exact hg η ρ nx L a v hη hL h
  | some u => simp only [hfl] at h; exact hf η ρ nx L a v hη hL (hfl.trans h)
theorem pur_sound {o : Oper} {f : Loc → Option AV} (h : opC P o.op = .pur f) : PurOk P o f := by
  unfold opC at h
  split at h
  · rename_i op t x y t' ho
    rcases orC_cases (opC0 P o.op) (symBin P op t (gOf x) (gOf y)) with h1 | ⟨f0, g0, h1, h2, h3⟩
    · rw [h1] at h; exact pur_sound0 h
    · rw [h3] at h
      injection h with h
      subst h
      exact (pur_sound0 h1).or (symBin_ok ho h2)
  · rename_i c ho
    rcases orC_cases (opC0 P o.op) (symCall P c) with h1 | ⟨f0, g0, h1, h2, h3⟩
    · rw [h1] at h; exact pur_sound0 h
    · rw [h3] at h
      injection h with h
      subst h
      exact (pur_sound0 h1).or (symCall_ok ho h2)
  · exact pur_sound0 h
theorem tot_sound {o : Oper} {f : Loc → AV} (h : opC P o.op = .tot f) : TotOk P o f := by
  rcases opC_cases (P := P) o.op with h1 | ⟨g0, g, _, h1⟩
  · exact tot_sound0 (h1 ▸ h)
  · rw [h1] at h; cases h
theorem look_sound {o : Oper} {f : Loc → Heap → Option AV} (h : opC P o.op = .look f) : LookOk P o f := by
  rcases opC_cases (P := P) o.op with h1 | ⟨g0, g, _, h1⟩
  · exact look_sound0 (h1 ▸ h)
  · rw [h1] at h; cases h
theorem new_sound {o : Oper} {f : Loc → Heap → Res} (h : opC P o.op = .new f) : NewOk P o f := by
  rcases opC_cases (P := P) o.op with h1 | ⟨g0, g, _, h1⟩
  · exact new_sound0 (h1 ▸ h)
  · rw [h1] at h; cases h
end
end Go.Proofs.YtddcgoopgnogeaaGreatDoor.Ev
