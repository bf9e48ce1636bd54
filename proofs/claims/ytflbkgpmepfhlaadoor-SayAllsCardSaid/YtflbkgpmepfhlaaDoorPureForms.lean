/- The steps' words, in plain Lean. -/
import Derived.Test.YtflbkgpmepfhlaaDoorPureWords
import Derived.Test.YtflbkgpmepfhlaaDoorFtypes
import Derived.Test.YtflbkgpmepfhlaaDoorFgharrylaw25few
import Derived.Test.YtflbkgpmepfhlaaDoorFgharryref25Words
import Derived.Test.YtflbkgpmepfhlaaDoorFsayplain
import Derived.Test.YtflbkgpmepfhlaaDoorFsayform
import Derived.Test.YtflbkgpmepfhlaaDoorFsayKind
namespace Go.Proofs.YtflbkgpmepfhlaaDoor.SayPure
open Go.RowKit Go.Proofs.YtflbkgpmepfhlaaDoor.HSay Go.Proofs.YtflbkgpmepfhlaaDoor.Hook Go.Proofs.YtflbkgpmepfhlaaDoorW.PrintWords
set_option linter.unusedVariables false
def wordsB : List ByteArray := (gharryref25_Words.f).getD []
theorem words_f : gharryref25_Words.f = some wordsB := rfl
theorem toList_inj {a b : ByteArray} (h : a.toList = b.toList) : a = b := by
  rw [bytes_toList, bytes_toList] at h
  cases a; cases b
  congr 1
  exact Array.toList_inj.1 h
def wd (j : Int) : ByteArray := rdOf ByteArray.empty wordsB j
theorem form_names : ∀ j : Fin 22, 1 ≤ j.val → (say_form.f (j.val : Int)).map (fun (p : ByteArray × List Int) => p.1) = some (wd (j.val : Int)) ∧ (wd (j.val : Int)).toList ≠ [] ∧ say_Kind.f 23 (wd (j.val : Int)) = some (j.val : Int) := by decide +kernel
theorem form_name (j : Int) (h1 : 1 ≤ j) (h2 : j ≤ 21) : ∃ l, say_form.f j = some (wd j, l) := by
  have := (form_names ⟨j.toNat, by omega⟩ (by show 1 ≤ j.toNat; omega)).1
  simp only [show ((j.toNat : Nat) : Int) = j from by omega] at this
  cases hf : say_form.f j with
  | none => rw [hf] at this; cases this
  | some p => rw [hf] at this; exact ⟨p.2, by have := Option.some.inj this; rw [← this]⟩
theorem word_ne (j : Int) (h1 : 1 ≤ j) (h2 : j ≤ 21) : (wd j).toList ≠ [] := by
  have := (form_names ⟨j.toNat, by omega⟩ (by show 1 ≤ j.toNat; omega)).2.1
  simpa only [show ((j.toNat : Nat) : Int) = j from by omega] using this
theorem form_other (j : Int) (h : j < 1 ∨ 21 < j) : say_form.f j = some (⟨#[]⟩, []) := by
  have n1 : ¬ j = 1 := by omega
  have n2 : ¬ j = 2 := by omega
  have n3 : ¬ j = 3 := by omega
  have n4 : ¬ j = 4 := by omega
  have n5 : ¬ j = 5 := by omega
  have n6 : ¬ j = 6 := by omega
  have n7 : ¬ j = 7 := by omega
  have n8 : ¬ j = 8 := by omega
  have n9 : ¬ j = 9 := by omega
  have n10 : ¬ j = 10 := by omega
  have n11 : ¬ j = 11 := by omega
  have n12 : ¬ j = 12 := by omega
  have n13 : ¬ j = 13 := by omega
  have n14 : ¬ j = 14 := by omega
  have n15 : ¬ j = 15 := by omega
  have n16 : ¬ j = 16 := by omega
  have n17 : ¬ j = 17 := by omega
  have n18 : ¬ j = 18 := by omega
  have n19 : ¬ j = 19 := by omega
  have n20 : ¬ j = 20 := by omega
  have n21 : ¬ j = 21 := by omega
  unfold say_form.f say_plain.f
  simp only [n1, n2, n3, n4, n5, n6, n7, n8, n9, n10, n11, n12, n13, n14, n15, n16, n17, n18, n19, n20, n21, if_false]
  rfl
theorem known_cases (j : Int) : (j = 1 ∨ j = 2 ∨ j = 3 ∨ j = 4 ∨ j = 5 ∨ j = 6 ∨ j = 7 ∨ j = 8 ∨ j = 9 ∨ j = 10 ∨ j = 11 ∨ j = 12 ∨ j = 13 ∨ j = 14 ∨ j = 15 ∨ j = 16 ∨ j = 17 ∨ j = 18 ∨ j = 19 ∨ j = 20 ∨ j = 21) ∨ (j < 1 ∨ 21 < j) := by omega

theorem kind_up (x : ByteArray) (r : Int) (k : Nat) (h : say_Kind.f k x = some r) : ∀ d, say_Kind.f (k + d) x = some r
  | 0 => h
  | d + 1 => say_Kind.mono x (k + d) r (kind_up x r k h d)
theorem kind_word (j : Int) (h1 : 1 ≤ j) (h2 : j ≤ 21) (k : Nat) (hk : 23 ≤ k) : say_Kind.f k (wd j) = some j := by
  have := (form_names ⟨j.toNat, by omega⟩ (by show 1 ≤ j.toNat; omega)).2.2
  simp only [show ((j.toNat : Nat) : Int) = j from by omega] at this
  have := kind_up _ _ _ this (k - 23)
  rwa [show 23 + (k - 23) = k from by omega] at this
theorem kind_none (x : ByteArray) (h : ∀ j : Int, 1 ≤ j → j ≤ 21 → (wd j).toList ≠ x.toList) : ∀ (n K : Nat) (i : Int), 1 ≤ i → i + n = 22 → say_Kind.l0 (n + K + 1) x i = some 0 := by
  intro n
  induction n with
  | zero =>
    intro K i h1 h2
    rw [show 0 + K + 1 = K + 1 from by omega, say_Kind.l0, if_neg (by omega)]
  | succ n ih =>
    intro K i h1 h2
    obtain ⟨l, hl⟩ := form_name i h1 (by omega)
    rw [show n + 1 + K + 1 = (n + K + 1) + 1 from by omega, say_Kind.l0, if_pos (by omega), hl, Option.bind_some, if_neg (h i h1 (by omega)), wrap64_of _ (by omega) (by omega)]
    exact ih K (i + 1) (by omega) (by omega)
/-- The number that SayKinds wants: the last one whose word it is. -/
def wantF (x : ByteArray) : Nat → Int → Int → Int
  | 0, _, w => w
  | n + 1, i, w => if (wd i).toList = x.toList then wantF x n (i + 1) i else wantF x n (i + 1) w
theorem want_none (x : ByteArray) (h : ∀ j : Int, 1 ≤ j → j ≤ 21 → (wd j).toList ≠ x.toList) : ∀ (n : Nat) (i w : Int), 1 ≤ i → i + n = 22 → wantF x n i w = w := by
  intro n
  induction n with
  | zero => intro i w _ _; rfl
  | succ n ih =>
    intro i w h1 h2
    rw [wantF, if_neg (h i h1 (by omega))]
    exact ih (i + 1) w (by omega) (by omega)
theorem want_words : ∀ j : Fin 22, 1 ≤ j.val → wantF (wd (j.val : Int)) 21 1 0 = (j.val : Int) := by decide +kernel
theorem kind_want (x : ByteArray) (k : Nat) (hk : 23 ≤ k) : say_Kind.f k x = some (wantF x 21 1 0) := by
  by_cases h : ∀ j : Int, 1 ≤ j → j ≤ 21 → (wd j).toList ≠ x.toList
  · rw [want_none x h 21 1 0 (by omega) (by omega), say_Kind.f, show k = 21 + (k - 22) + 1 from by omega]
    exact kind_none x h 21 _ 1 (by omega) (by omega)
  · have : ∃ j : Int, 1 ≤ j ∧ j ≤ 21 ∧ (wd j).toList = x.toList := by
      apply Classical.byContradiction
      intro hn
      exact h fun j h1 h2 h3 => hn ⟨j, h1, h2, h3⟩
    obtain ⟨j, h1, h2, h3⟩ := this
    obtain rfl := toList_inj h3
    have := want_words ⟨j.toNat, by omega⟩ (by show 1 ≤ j.toNat; omega)
    simp only [show ((j.toNat : Nat) : Int) = j from by omega] at this
    rw [this]
    exact kind_word j h1 h2 k hk

theorem few_f (a b c d e : Int) (f g : ByteArray) (h : Bool) : gharrylaw25_few.f a b c d e f g h = some (a, b, c, d, e, cutB f, cutB g, h) := by
  unfold gharrylaw25_few.f
  rw [cut_f, Option.bind_some, cut_f, Option.bind_some]
end Go.Proofs.YtflbkgpmepfhlaaDoor.SayPure
