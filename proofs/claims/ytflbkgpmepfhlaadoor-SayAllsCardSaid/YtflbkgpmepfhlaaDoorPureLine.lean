/- Lines and their words, in plain Lean: what is parsed is printed as it was, and the other way about. -/
import Derived.Test.YtflbkgpmepfhlaaDoorPureParse
namespace Go.Proofs.YtflbkgpmepfhlaaDoor.SayPure
open Go.RowKit Go.Proofs.YtflbkgpmepfhlaaDoor.HSay Go.Proofs.YtflbkgpmepfhlaaDoor.Hook Go.Proofs.YtflbkgpmepfhlaaDoorW.PrintWords
set_option linter.unusedVariables false
/-! ### splitting -/
theorem split_ne (c : UInt8) (l : List UInt8) : splitL c l ≠ [] := by
  induction l with
  | nil => simp [splitL]
  | cons b l ih =>
    rw [splitL]
    split
    · simp
    · split <;> simp
theorem split_pre (c : UInt8) (r : List UInt8) : ∀ p : List UInt8, c ∉ p → splitL c (p ++ c :: r) = p :: splitL c r := by
  intro p
  induction p with
  | nil => intro _; rw [List.nil_append, splitL, if_pos rfl]
  | cons b p ih =>
    intro h
    have hb : ¬ b = c := fun e => h (by simp [e])
    rw [List.cons_append, splitL, if_neg hb, ih (fun e => h (by simp [e]))]
theorem split_len (c : UInt8) : ∀ (l p : List UInt8), p ∈ splitL c l → p.length ≤ l.length := by
  intro l
  induction l with
  | nil => intro p hp; simp [splitL] at hp; subst hp; simp
  | cons b l ih =>
    intro p hp
    rw [splitL] at hp
    split at hp
    · rcases List.mem_cons.1 hp with rfl | hp
      · simp
      · have := ih p hp
        simp only [List.length_cons]; omega
    · split at hp
      · rename_i he
        exact absurd he (split_ne c l)
      · rename_i q r he
        rcases List.mem_cons.1 hp with rfl | hp
        · have := ih q (by rw [he]; simp)
          simp only [List.length_cons]; omega
        · have := ih p (by rw [he]; simp [hp])
          simp only [List.length_cons]; omega
theorem split_join (c : UInt8) : ∀ (l p : List UInt8) (r : List (List UInt8)), splitL c l = p :: r → p ++ r.flatMap (fun q => c :: q) = l := by
  intro l
  induction l with
  | nil => intro p r h; simp [splitL] at h; obtain ⟨rfl, rfl⟩ := h; rfl
  | cons b l ih =>
    intro p r h
    rw [splitL] at h
    split at h
    · rename_i hb
      subst hb
      obtain ⟨rfl, rfl⟩ := List.cons.inj h
      cases hs : splitL b l with
      | nil => exact absurd hs (split_ne b l)
      | cons q r' =>
        have := ih q r' hs
        rw [List.nil_append, List.flatMap_cons, List.cons_append, this]
    · split at h
      · rename_i he
        exact absurd he (split_ne c l)
      · rename_i q r' he
        obtain ⟨rfl, rfl⟩ := List.cons.inj h
        rw [List.cons_append, ih q r' he]
theorem split_words (c : UInt8) : ∀ (r : List (List UInt8)) (p : List UInt8), c ∉ p → (∀ q ∈ r, c ∉ q) → splitL c (p ++ r.flatMap (fun q => c :: q)) = p :: r := by
  intro r
  induction r with
  | nil => intro p hp _; rw [List.flatMap_nil, List.append_nil]; exact split_none c p hp
  | cons q r ih =>
    intro p hp hr
    rw [List.flatMap_cons, List.cons_append, split_pre c _ p hp, ih q (hr q (by simp)) (fun x hx => hr x (by simp [hx]))]
theorem ext_list {a b : ByteArray} (h : a.data.toList = b.data.toList) : a = b := toList_inj (by rw [bytes_toList, bytes_toList, h])
theorem extract_mk (s : ByteArray) (a b : Nat) : s.extract a b = mkB ((s.data.toList.drop a).take (b - a)) := by
  apply ext_list
  show (s.extract a b).data.toList = _
  rw [ByteArray.data_extract, Array.toList_extract]
  rfl
/-! ### which step a line is -/
theorem form_same (j : Int) : HBase.say_form.f j = say_form.f j := rfl
theorem kind_same : ∀ (k : Nat) (x : ByteArray) (i : Int), HBase.say_Kind.l0 k x i = say_Kind.l0 k x i := by
  intro k
  induction k with
  | zero => intro x i; rfl
  | succ k ih =>
    intro x i
    rw [HBase.say_Kind.l0, say_Kind.l0, form_same]
    simp only [ih]
def wordsOf (s : ByteArray) : List ByteArray := (splitL 32 s.data.toList).map mkB
def kindOf (s : ByteArray) : Int := wantF ((wordsOf s).headD ⟨#[]⟩) 21 1 0
def codesOf (k : Int) : List Int := match say_form.f k with
  | some p => p.2
  | none => []
/-- The step that a line is; none: it is none's. -/
def parseF (s : ByteArray) : Option T8 := if kindOf s = 0 then none else if (codesOf (kindOf s)).length + 1 = (wordsOf s).length then readAll (codesOf (kindOf s)) ((wordsOf s).drop 1) (zero8 (kindOf s)) else none
theorem want_range (x : ByteArray) : ∀ (n : Nat) (i w : Int), wantF x n i w = w ∨ (i ≤ wantF x n i w ∧ wantF x n i w < i + n ∧ (wd (wantF x n i w)).toList = x.toList) := by
  intro n
  induction n with
  | zero => intro i w; exact Or.inl rfl
  | succ n ih =>
    intro i w
    rw [wantF]
    split
    · rename_i h
      rcases ih (i + 1) i with e | ⟨h1, h2, h3⟩
      · rw [e]; exact Or.inr ⟨by omega, by omega, h⟩
      · exact Or.inr ⟨by omega, by omega, h3⟩
    · rcases ih (i + 1) w with e | ⟨h1, h2, h3⟩
      · exact Or.inl e
      · exact Or.inr ⟨by omega, by omega, h3⟩
theorem kind_range (s : ByteArray) (h : ¬ kindOf s = 0) : 1 ≤ kindOf s ∧ kindOf s ≤ 21 ∧ (wd (kindOf s)) = (wordsOf s).headD ⟨#[]⟩ := by
  rcases want_range ((wordsOf s).headD ⟨#[]⟩) 21 1 0 with e | ⟨h1, h2, h3⟩
  · exact absurd e h
  · exact ⟨h1, by have : kindOf s < 1 + 21 := h2
                  omega, toList_inj h3⟩
theorem words_cons (s : ByteArray) : ∃ w ws, wordsOf s = w :: ws := by
  unfold wordsOf
  cases h : splitL 32 s.data.toList with
  | nil => exact absurd h (split_ne _ _)
  | cons p r => exact ⟨mkB p, r.map mkB, rfl⟩
theorem mkB_size (p : List UInt8) : (mkB p).size = p.length := by rw [← size_list]; rfl
theorem words_size (s w : ByteArray) (h : w ∈ wordsOf s) : w.size ≤ s.size := by
  obtain ⟨p, hp, rfl⟩ := List.mem_map.1 h
  have := split_len 32 _ p hp
  rw [mkB_size, ← size_list s]
  exact this
theorem codes_ok (z : ByteArray) : ∀ x ∈ codes z, codeOk x := by
  intro x hx
  unfold codes at hx
  obtain ⟨u, _, rfl⟩ := List.mem_map.1 hx
  unfold codeOk codeN
  repeat' split
  all_goals omega
theorem codesOf_eq (k : Int) (h1 : 1 ≤ k) (h2 : k ≤ 21) : ∃ z : ByteArray, gharryref25_args.f k = some z ∧ codesOf k = codes z ∧ z.size ≤ 5 ∧ say_form.f k = some (wd k, codes z) ∧ (codes z).length = z.size := by
  obtain ⟨z, hz, hl, hsz, _⟩ := table k h1 h2
  exact ⟨z, hz, by unfold codesOf; rw [hl], hsz, hl, by unfold codes; rw [List.length_map, size_list]⟩
theorem say_parse (s : ByteArray) (hs : s.size ≤ 1000000) : parse8 s = some (match parseF s with | some t => (t, 0) | none => (zero8 0, 4)) := by
  have hsp : strings_Split.f s ⟨#[32]⟩ = some (wordsOf s) := if_pos hs
  obtain ⟨w, ws, hws⟩ := words_cons s
  have hk : kindOf s = wantF w 21 1 0 := by unfold kindOf; rw [hws]; rfl
  unfold parse8
  rw [hsp, Option.bind_some, hws]
  show (HBase.say_Kind.f 30 w).bind _ = _
  have hkf : HBase.say_Kind.f 30 w = some (kindOf s) := by
    rw [hk]
    exact (kind_same 30 w 1).trans (kind_want w 30 (by omega))
  rw [hkf, Option.bind_some, form_same]
  unfold parseF
  by_cases h0 : kindOf s = 0
  · rw [h0, form_other 0 (by omega), Option.bind_some, if_pos (Or.inl rfl), if_pos rfl]
  · obtain ⟨h1, h2, _⟩ := kind_range s h0
    obtain ⟨z, hz, hc, hsz, hf, hcl⟩ := codesOf_eq _ h1 h2
    rw [hf, Option.bind_some, if_neg h0, hc, ← hws]
    have hlen : (wordsOf s).length = ws.length + 1 := by rw [hws]; rfl
    by_cases he : (codes z).length + 1 = (wordsOf s).length
    · rw [if_neg (by intro hh; rcases hh with hh | hh
                     · exact h0 hh
                     · exact hh (by show ((codes z).length : Int) = ((wordsOf s).length : Int) - 1; omega)), if_pos he]
      exact args_say (wordsOf s) (fun x hx => by have := words_size s x hx; omega) (codes z) 1 (zero8 (kindOf s)) (codes_ok z) (by omega)
    · rw [if_pos (Or.inr (by show ¬ ((codes z).length : Int) = ((wordsOf s).length : Int) - 1; omega)), if_neg he]
end Go.Proofs.YtflbkgpmepfhlaaDoor.SayPure
