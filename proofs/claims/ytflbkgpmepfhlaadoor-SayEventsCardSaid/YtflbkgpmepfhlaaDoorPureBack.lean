/- The plain laws of SayParses and SayBack. -/
import Derived.Test.YtflbkgpmepfhlaaDoorPureLine
import Derived.Test.YtflbkgpmepfhlaaDoorPureShow
namespace Go.Proofs.YtflbkgpmepfhlaaDoor.SayPure
open Go.RowKit Go.Proofs.YtflbkgpmepfhlaaDoor.HSay Go.Proofs.YtflbkgpmepfhlaaDoor.Hook Go.Proofs.YtflbkgpmepfhlaaDoorW.PrintWords
set_option linter.unusedVariables false
def showT (t : T8) (x : Int) : Option ByteArray := showF t.1 t.2.1 t.2.2.1 t.2.2.2.1 t.2.2.2.2.1 t.2.2.2.2.2.1 t.2.2.2.2.2.2.1 t.2.2.2.2.2.2.2 x
def okT (n : Nat) (t : T8) : Prop := 0 ≤ t.2.2.2.2.1 ∧ t.2.2.2.2.1 < 18446744073709551616 ∧ t.2.2.2.2.2.1.size ≤ n ∧ t.2.2.2.2.2.2.1.size ≤ n
theorem codes7 {x : Int} (h : codeOk x) : x = 1 ∨ x = 2 ∨ x = 3 ∨ x = 4 ∨ x = 5 ∨ x = 6 ∨ x = 7 := by unfold codeOk at h; omega
theorem decB_back (w : ByteArray) (most n : Int) (h : countF w.data.toList most = (n, true)) : decB n = w ∧ 0 ≤ n ∧ n < 18446744073709551616 ∧ n ≤ most := by
  obtain ⟨h1, h2, h3, h4⟩ := dec_count _ _ _ h
  exact ⟨ext_list h1, h2, h3, h4⟩
theorem num_back (w : ByteArray) (h : (countF w.data.toList 1073741824).2 = true) : numF (countF w.data.toList 1073741824).1 = some w := by
  obtain ⟨h1, h2, h3, h4⟩ := decB_back w 1073741824 _ (show countF w.data.toList 1073741824 = ((countF w.data.toList 1073741824).1, true) by rw [← h])
  unfold numF
  rw [if_pos ⟨h2, h4⟩, h1]
theorem mkW_back (w : ByteArray) (s : List UInt8) (h : text w.data.toList = some s) : mkW ⟨s.toArray⟩ = w := ext_list (word_text _ _ h)
theorem both_back (w : ByteArray) (h : w.toList = [98, 111, 116, 104]) : (⟨#[98, 111, 116, 104]⟩ : ByteArray) = w := toList_inj (by rw [h, bytes_toList])
theorem one_back (w : ByteArray) (h : w.toList = [111, 110, 101]) : (⟨#[111, 110, 101]⟩ : ByteArray) = w := toList_inj (by rw [h, bytes_toList])
theorem read_show (t t' : T8) (x : Int) (w : ByteArray) (hx : codeOk x) (h : readF t x w = some t') :
    showT t' x = some w ∧ (∀ y, codeOk y → y ≠ x → showT t' y = showT t y) ∧ t'.1 = t.1 ∧ (∀ n, w.size ≤ n → okT n t → okT n t') := by
  have hcr := fun m => count_range w.data.toList m
  rcases codes7 hx with rfl | rfl | rfl | rfl | rfl | rfl | rfl
  · have eF : readF t 1 w = (if (countF w.data.toList 1073741824).2 = true then some (t.1, t.2.1, (countF w.data.toList 1073741824).1, t.2.2.2) else none) := by kernel_rfl
    rw [eF] at h
    split at h
    · rename_i hc
      obtain rfl := Option.some.inj h
      refine ⟨num_back w hc, fun y hy hne => ?_, rfl, fun n _ ho => ho⟩
      rcases codes7 hy with rfl | rfl | rfl | rfl | rfl | rfl | rfl
      all_goals first | exact absurd rfl hne | kernel_rfl
    · cases h
  · have eF : readF t 2 w = (if (countF w.data.toList 1073741824).2 = true then some (t.1, (countF w.data.toList 1073741824).1, t.2.2) else none) := by kernel_rfl
    rw [eF] at h
    split at h
    · rename_i hc
      obtain rfl := Option.some.inj h
      refine ⟨num_back w hc, fun y hy hne => ?_, rfl, fun n _ ho => ho⟩
      rcases codes7 hy with rfl | rfl | rfl | rfl | rfl | rfl | rfl
      all_goals first | exact absurd rfl hne | kernel_rfl
    · cases h
  · have eF : readF t 3 w = (if (countF w.data.toList 1073741824).2 = true then some (t.1, t.2.1, t.2.2.1, (countF w.data.toList 1073741824).1, t.2.2.2.2) else none) := by kernel_rfl
    rw [eF] at h
    split at h
    · rename_i hc
      obtain rfl := Option.some.inj h
      refine ⟨num_back w hc, fun y hy hne => ?_, rfl, fun n _ ho => ho⟩
      rcases codes7 hy with rfl | rfl | rfl | rfl | rfl | rfl | rfl
      all_goals first | exact absurd rfl hne | kernel_rfl
    · cases h
  · have eF : readF t 4 w = (if (countF w.data.toList 18446744073709551615).2 = true then some (t.1, t.2.1, t.2.2.1, t.2.2.2.1, (countF w.data.toList 18446744073709551615).1, t.2.2.2.2.2) else none) := by kernel_rfl
    rw [eF] at h
    split at h
    · rename_i hc
      obtain rfl := Option.some.inj h
      obtain ⟨h1, h2, h3, h4⟩ := decB_back w 18446744073709551615 _ (show countF w.data.toList 18446744073709551615 = ((countF w.data.toList 18446744073709551615).1, true) by rw [← hc])
      refine ⟨congrArg some h1, fun y hy hne => ?_, rfl, fun n _ ho => ⟨h2, h3, ho.2.2.1, ho.2.2.2⟩⟩
      rcases codes7 hy with rfl | rfl | rfl | rfl | rfl | rfl | rfl
      all_goals first | exact absurd rfl hne | kernel_rfl
    · cases h
  · have eF : readF t 5 w = (text w.data.toList).map fun s => (t.1, t.2.1, t.2.2.1, t.2.2.2.1, t.2.2.2.2.1, ⟨s.toArray⟩, t.2.2.2.2.2.2) := by kernel_rfl
    rw [eF] at h
    obtain ⟨s, hs, rfl⟩ := Option.map_eq_some_iff.1 h
    have hl := text_le _ _ hs
    refine ⟨congrArg some (mkW_back w s hs), fun y hy hne => ?_, rfl, fun n hn ho => ⟨ho.1, ho.2.1, ?_, ho.2.2.2⟩⟩
    · rcases codes7 hy with rfl | rfl | rfl | rfl | rfl | rfl | rfl
      all_goals first | exact absurd rfl hne | kernel_rfl
    · show (mkB s).size ≤ n
      rw [mkB_size]; rw [size_list] at hl; omega
  · have eF : readF t 6 w = (text w.data.toList).map fun s => (t.1, t.2.1, t.2.2.1, t.2.2.2.1, t.2.2.2.2.1, t.2.2.2.2.2.1, ⟨s.toArray⟩, t.2.2.2.2.2.2.2) := by kernel_rfl
    rw [eF] at h
    obtain ⟨s, hs, rfl⟩ := Option.map_eq_some_iff.1 h
    have hl := text_le _ _ hs
    refine ⟨congrArg some (mkW_back w s hs), fun y hy hne => ?_, rfl, fun n hn ho => ⟨ho.1, ho.2.1, ho.2.2.1, ?_⟩⟩
    · rcases codes7 hy with rfl | rfl | rfl | rfl | rfl | rfl | rfl
      all_goals first | exact absurd rfl hne | kernel_rfl
    · show (mkB s).size ≤ n
      rw [mkB_size]; rw [size_list] at hl; omega
  · have eF : readF t 7 w = if w.toList = [98, 111, 116, 104] then some (t.1, t.2.1, t.2.2.1, t.2.2.2.1, t.2.2.2.2.1, t.2.2.2.2.2.1, t.2.2.2.2.2.2.1, true) else if w.toList = [111, 110, 101] then some (t.1, t.2.1, t.2.2.1, t.2.2.2.1, t.2.2.2.2.1, t.2.2.2.2.2.1, t.2.2.2.2.2.2.1, false) else none := by kernel_rfl
    rw [eF] at h
    split at h
    · rename_i hc
      obtain rfl := Option.some.inj h
      refine ⟨congrArg some (both_back w hc), fun y hy hne => ?_, rfl, fun n _ ho => ho⟩
      rcases codes7 hy with rfl | rfl | rfl | rfl | rfl | rfl | rfl
      all_goals first | exact absurd rfl hne | kernel_rfl
    · split at h
      · rename_i hc
        obtain rfl := Option.some.inj h
        refine ⟨congrArg some (one_back w hc), fun y hy hne => ?_, rfl, fun n _ ho => ho⟩
        rcases codes7 hy with rfl | rfl | rfl | rfl | rfl | rfl | rfl
        all_goals first | exact absurd rfl hne | kernel_rfl
      · cases h
theorem read_all (n : Nat) : ∀ (xs : List Int) (ws : List ByteArray) (t t' : T8), readAll xs ws t = some t' → (∀ x ∈ xs, codeOk x) → xs.Nodup → xs.length = ws.length → (∀ w ∈ ws, w.size ≤ n) → okT n t →
    t'.1 = t.1 ∧ okT n t' ∧ (∀ y, codeOk y → y ∉ xs → showT t' y = showT t y) ∧ xs.map (showT t') = ws.map some := by
  intro xs
  induction xs with
  | nil =>
    intro ws t t' h _ _ hl _ ho
    rw [readAll] at h
    obtain rfl := Option.some.inj h
    cases ws with
    | nil => exact ⟨rfl, ho, fun _ _ _ => rfl, rfl⟩
    | cons w ws => simp at hl
  | cons x xs ih =>
    intro ws t t' h hx hn hl hw ho
    cases ws with
    | nil => simp at hl
    | cons w ws =>
      rw [readAll] at h
      obtain ⟨t1, h1, h2⟩ := Option.bind_eq_some_iff.1 h
      obtain ⟨s1, s2, s3, s4⟩ := read_show t t1 x w (hx x (by simp)) h1
      have hnx : x ∉ xs := (List.nodup_cons.1 hn).1
      obtain ⟨i1, i2, i3, i4⟩ := ih ws t1 t' h2 (fun y hy => hx y (by simp [hy])) (List.nodup_cons.1 hn).2 (by simpa using hl) (fun y hy => hw y (by simp [hy])) (s4 n (hw w (by simp)) ho)
      refine ⟨i1.trans s3, i2, fun y hy hny => ?_, ?_⟩
      · rw [i3 y hy (fun e => hny (by simp [e])), s2 y hy (fun e => hny (by simp [e]))]
      · rw [List.map_cons, List.map_cons, i4, i3 x (hx x (by simp)) hnx, s1]
def joinT (acc : ByteArray) (ws : List ByteArray) : ByteArray := ws.foldl (fun a w => (a ++ ⟨#[32]⟩) ++ w) acc
def printT (t : T8) (xs : List Int) (acc : ByteArray) : ByteArray × Int := printF t.1 t.2.1 t.2.2.1 t.2.2.2.1 t.2.2.2.2.1 t.2.2.2.2.2.1 t.2.2.2.2.2.2.1 t.2.2.2.2.2.2.2 xs acc
theorem printT_cons (t : T8) (x : Int) (xs : List Int) (acc : ByteArray) : printT t (x :: xs) acc = match showT t x with
    | some s => printT t xs ((acc ++ ⟨#[32]⟩) ++ s)
    | none => (⟨#[]⟩, 6) := rfl
theorem print_words (t : T8) : ∀ (xs : List Int) (ws : List ByteArray) (acc : ByteArray), xs.map (showT t) = ws.map some → printT t xs acc = (joinT acc ws, 0) := by
  intro xs
  induction xs with
  | nil =>
    intro ws acc h
    cases ws with
    | nil => rfl
    | cons w ws => simp at h
  | cons x xs ih =>
    intro ws acc h
    cases ws with
    | nil => simp at h
    | cons w ws =>
      rw [List.map_cons, List.map_cons] at h
      obtain ⟨h1, h2⟩ := List.cons.inj h
      rw [printT_cons, h1]
      exact ih ws _ h2
theorem print_ok (t : T8) : ∀ (xs : List Int) (acc s : ByteArray), printT t xs acc = (s, 0) → ∃ ws : List ByteArray, xs.map (showT t) = ws.map some ∧ s = joinT acc ws := by
  intro xs
  induction xs with
  | nil => intro acc s h; exact ⟨[], rfl, (Prod.mk.inj h).1.symm⟩
  | cons x xs ih =>
    intro acc s h
    rw [printT_cons] at h
    cases hq : showT t x with
    | none => rw [hq] at h; exact absurd (Prod.mk.inj h).2 (by decide)
    | some w =>
      rw [hq] at h
      obtain ⟨ws, h1, h2⟩ := ih _ s h
      exact ⟨w :: ws, by rw [List.map_cons, List.map_cons, h1, hq], h2⟩
theorem append_list (a b : ByteArray) : (a ++ b).data.toList = a.data.toList ++ b.data.toList := by
  rw [ByteArray.data_append, Array.toList_append]
theorem join_list : ∀ (ws : List ByteArray) (acc : ByteArray), (joinT acc ws).data.toList = acc.data.toList ++ (ws.map fun w => w.data.toList).flatMap (fun q => (32 : UInt8) :: q) := by
  intro ws
  induction ws with
  | nil => intro acc; simp [joinT]
  | cons w ws ih =>
    intro acc
    have := ih ((acc ++ ⟨#[32]⟩) ++ w)
    show (joinT ((acc ++ ⟨#[32]⟩) ++ w) ws).data.toList = _
    rw [this, append_list, append_list, List.map_cons, List.flatMap_cons]
    simp
theorem join_size : ∀ (ws : List ByteArray) (acc : ByteArray) (m : Nat), (∀ w ∈ ws, w.size ≤ m) → (joinT acc ws).size ≤ acc.size + (m + 1) * ws.length := by
  intro ws
  induction ws with
  | nil => intro acc m _; show acc.size ≤ _; simp
  | cons w ws ih =>
    intro acc m h
    have h1 := ih ((acc ++ ⟨#[32]⟩) ++ w) m (fun x hx => h x (by simp [hx]))
    have h2 := h w (by simp)
    rw [size_join, size_join, show (⟨#[32]⟩ : ByteArray).size = 1 from rfl] at h1
    show (joinT ((acc ++ ⟨#[32]⟩) ++ w) ws).size ≤ _
    rw [List.length_cons, Nat.mul_succ]
    omega
theorem tables2 : ∀ j : Fin 22, 1 ≤ j.val → (codesOf (j.val : Int)).Nodup ∧ (32 : UInt8) ∉ (wd (j.val : Int)).data.toList ∧ wantF (wd (j.val : Int)) 21 1 0 = (j.val : Int) := by decide +kernel
theorem table2 (j : Int) (h1 : 1 ≤ j) (h2 : j ≤ 21) : (codesOf j).Nodup ∧ (32 : UInt8) ∉ (wd j).data.toList ∧ wantF (wd j) 21 1 0 = j := by
  have := tables2 ⟨j.toNat, by omega⟩ (by show 1 ≤ j.toNat; omega)
  simpa only [show ((j.toNat : Nat) : Int) = j from by omega] using this
/-- What is parsed is printed as it was. -/
theorem line_parse (s : ByteArray) (t : T8) (n : Nat) (hs : s.size ≤ n) (h : parseF s = some t) : lineF t.1 t.2.1 t.2.2.1 t.2.2.2.1 t.2.2.2.2.1 t.2.2.2.2.2.1 t.2.2.2.2.2.2.1 t.2.2.2.2.2.2.2 = (s, 0) ∧ okT n t := by
  unfold parseF at h
  split at h
  · cases h
  rename_i h0
  split at h
  · rename_i hlen
    obtain ⟨h1, h2, h3⟩ := kind_range s h0
    obtain ⟨z, hz, hc, hsz, hf, hcl⟩ := codesOf_eq _ h1 h2
    obtain ⟨hnd, _, _⟩ := table2 _ h1 h2
    have hso : splitL 32 s.data.toList ≠ [] := split_ne _ _
    cases hsp : splitL 32 s.data.toList with
    | nil => exact absurd hsp hso
    | cons p r =>
      have hw : wordsOf s = mkB p :: r.map mkB := by unfold wordsOf; rw [hsp]; rfl
      rw [hw] at h3 hlen
      have hd : (wordsOf s).drop 1 = r.map mkB := by rw [hw]; rfl
      rw [hd] at h
      have hws : ∀ w ∈ r.map mkB, w.size ≤ n := fun w hm => Nat.le_trans (words_size s w (by rw [hw]; simp [hm])) hs
      obtain ⟨i1, i2, _, i4⟩ := read_all n _ _ _ _ h (by rw [hc]; exact codes_ok z) hnd (by simpa using hlen) hws ⟨(show (0 : Int) ≤ 0 by decide), (show (0 : Int) < 18446744073709551616 by decide), Nat.zero_le _, Nat.zero_le _⟩
      refine ⟨?_, i2⟩
      have hk : t.1 = kindOf s := i1
      unfold lineF
      rw [if_pos (by rw [hk]; exact ⟨h1, h2⟩), hk, hf]
      have := print_words t (codes z) (r.map mkB) (wd (kindOf s)) (by rw [← hc]; exact i4)
      unfold printT at this
      rw [hk] at this
      refine this.trans ?_
      congr 1
      apply ext_list
      rw [join_list, h3]
      show p ++ _ = _
      rw [List.map_map]
      have he : (r.map ((fun w : ByteArray => w.data.toList) ∘ mkB)) = r := by
        conv => rhs; rw [← List.map_id r]
        rfl
      rw [he]
      exact split_join 32 _ p r hsp
  · cases h
end Go.Proofs.YtflbkgpmepfhlaaDoor.SayPure
