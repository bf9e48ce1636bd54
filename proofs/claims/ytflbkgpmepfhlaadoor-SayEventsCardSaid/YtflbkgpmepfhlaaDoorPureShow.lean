/- A step's line, in plain Lean. -/
import Derived.Test.YtflbkgpmepfhlaaDoorPureCodes
import Derived.Test.YtflbkgpmepfhlaaDoorFtypes
import Derived.Test.YtflbkgpmepfhlaaDoorFsayform
import Derived.Test.YtflbkgpmepfhlaaDoorFgharryref25args
import Derived.Test.YtflbkgpmepfhlaaDoorFsayshow
import Derived.Test.YtflbkgpmepfhlaaDoorFsayPrint
namespace Go.Proofs.YtflbkgpmepfhlaaDoor.SayPure
open Go.RowKit Go.Proofs.YtflbkgpmepfhlaaDoor.HSay Go.Proofs.YtflbkgpmepfhlaaDoor.Hook Go.Proofs.YtflbkgpmepfhlaaDoorW.PrintWords
set_option linter.unusedVariables false
def decB (n : Int) : ByteArray := ⟨(dec n.toNat).toArray⟩
theorem decB_size (n : Int) (h : n < 18446744073709551616) : (decB n).size ≤ 20 := by
  have : (decB n).size = (dec n.toNat).length := by rw [← size_list]; rfl
  rw [this]
  refine dec_le 19 _ ?_
  have h20 : (10 : Nat) ^ (19 + 1) = 100000000000000000000 := by decide
  omega
theorem digits_wrap (n : Int) : say_digits.f (IntKind.u64.wrap n) = some (decB (IntKind.u64.wrap n)) := by
  unfold say_digits.f
  rw [if_pos (by rw [u64w]; omega)]
  rfl
theorem digits_in (n : Int) (h0 : 0 ≤ n) (h1 : n < 18446744073709551616) : say_digits.f n = some (decB n) := by
  unfold say_digits.f
  rw [if_pos ⟨h0, h1⟩]
  rfl
/-- A whole number as a word. -/
def numF (a : Int) : Option ByteArray := if 0 ≤ a ∧ a ≤ 1073741824 then some (decB a) else none
theorem wrap_small (a : Int) (h0 : 0 ≤ a) (h1 : a ≤ 1073741824) : IntKind.u64.wrap a = a := by rw [u64w]; omega
/-- What a step's argument of a kind is as a word. -/
def showF (a b c d e : Int) (f g : ByteArray) (h : Bool) (x : Int) : Option ByteArray :=
  if x = 1 then numF c else if x = 2 then numF b else if x = 3 then numF d else if x = 4 then some (decB e) else if x = 5 then some (mkW f) else if x = 6 then some (mkW g) else some (if h then ⟨#[98, 111, 116, 104]⟩ else ⟨#[111, 110, 101]⟩)
theorem num_say (a : Int) : ∃ t : ByteArray × Bool, ((say_digits.f (IntKind.u64.wrap (a))).bind fun t328 => (if a ≥ 0 then (some (t328, decide (a ≤ 1073741824))) else (some (t328, false)))) = some t ∧ (∀ s, numF a = some s → t = (s, true)) ∧ (numF a = none → t.2 = false) := by
  rw [digits_wrap, Option.bind_some]
  unfold numF
  by_cases h0 : a ≥ 0
  · rw [if_pos h0]
    by_cases h1 : a ≤ 1073741824
    · refine ⟨_, rfl, ?_, ?_⟩
      · rw [if_pos ⟨h0, h1⟩, wrap_small a h0 h1, decide_eq_true h1]
        intro s hs
        rw [Option.some.inj hs]
      · rw [if_pos ⟨h0, h1⟩]; intro hs; cases hs
    · refine ⟨_, rfl, ?_, ?_⟩
      · rw [if_neg (by omega)]; intro s hs; cases hs
      · intro _; exact decide_eq_false h1
  · rw [if_neg h0]
    refine ⟨_, rfl, ?_, ?_⟩
    · rw [if_neg (by omega)]; intro s hs; cases hs
    · intro _; rfl
section
variable (a b c d e : Int) (f g : ByteArray) (h : Bool)
theorem show_say (he0 : 0 ≤ e) (he1 : e < 18446744073709551616) (hf : f.size ≤ 300) (hg : g.size ≤ 300) (x : Int) :
    ∃ t : ByteArray × Bool, say_show.f a b c d e f g h x = some t ∧ (∀ s, showF a b c d e f g h x = some s → t = (s, true)) ∧ (showF a b c d e f g h x = none → t.2 = false) := by
  unfold say_show.f showF
  by_cases h1 : x = 1
  · rw [if_pos h1, if_pos h1]; exact num_say c
  rw [if_neg h1, if_neg h1]
  by_cases h2 : x = 2
  · rw [if_pos h2, if_pos h2]; exact num_say b
  rw [if_neg h2, if_neg h2]
  by_cases h3 : x = 3
  · rw [if_pos h3, if_pos h3]; exact num_say d
  rw [if_neg h3, if_neg h3]
  by_cases h4 : x = 4
  · rw [if_pos h4, if_pos h4, digits_in e he0 he1, Option.bind_some]
    exact ⟨_, rfl, fun s hs => (by rw [Option.some.inj hs]), fun hs => (by cases hs)⟩
  rw [if_neg h4, if_neg h4]
  by_cases h5 : x = 5
  · rw [if_pos h5, if_pos h5, sayWord_f (by omega), Option.bind_some]
    exact ⟨_, rfl, fun s hs => (by rw [Option.some.inj hs]), fun hs => (by cases hs)⟩
  rw [if_neg h5, if_neg h5]
  by_cases h6 : x = 6
  · rw [if_pos h6, if_pos h6, sayWord_f (by omega), Option.bind_some]
    exact ⟨_, rfl, fun s hs => (by rw [Option.some.inj hs]), fun hs => (by cases hs)⟩
  rw [if_neg h6, if_neg h6]
  by_cases hh : h = true
  · rw [if_pos hh]
    exact ⟨_, rfl, fun s hs => (by rw [hh, if_pos rfl] at hs; rw [Option.some.inj hs]), fun hs => (by cases hs)⟩
  · rw [if_neg hh]
    exact ⟨_, rfl, fun s hs => (by rw [if_neg hh] at hs; rw [Option.some.inj hs]), fun hs => (by cases hs)⟩
theorem show_size (he0 : 0 ≤ e) (he1 : e < 18446744073709551616) (hf : f.size ≤ 300) (hg : g.size ≤ 300) (x : Int) (s : ByteArray) (hs : showF a b c d e f g h x = some s) : s.size ≤ 901 := by
  have num : ∀ n, numF n = some s → s.size ≤ 901 := by
    intro n hn
    unfold numF at hn
    split at hn
    · have := decB_size n (by omega)
      rw [← Option.some.inj hn]; omega
    · cases hn
  have hwf := mkW_size f
  have hwg := mkW_size g
  have hde := decB_size e he1
  unfold showF at hs
  split at hs
  · exact num _ hs
  split at hs
  · exact num _ hs
  split at hs
  · exact num _ hs
  split at hs
  · rw [← Option.some.inj hs]; omega
  split at hs
  · rw [← Option.some.inj hs]; omega
  split at hs
  · rw [← Option.some.inj hs]; omega
  · rw [← Option.some.inj hs]; cases h <;> decide
/-- The line, from what stands ahead of these arguments. -/
def printF : List Int → ByteArray → ByteArray × Int
  | [], acc => (acc, 0)
  | x :: xs, acc => match showF a b c d e f g h x with
    | some s => printF xs ((acc ++ ⟨#[32]⟩) ++ s)
    | none => (⟨#[]⟩, 6)
theorem rd_at (xs : List Int) (i : Nat) (hi : i < xs.length) : rd xs (i : Int) = xs[i] := by
  unfold rd
  rw [Int.toNat_natCast, List.getD_eq_getElem?_getD, List.getElem?_eq_getElem hi]
  rfl
theorem print_say (he0 : 0 ≤ e) (he1 : e < 18446744073709551616) (hf : f.size ≤ 300) (hg : g.size ≤ 300) (xs : List Int) (hxl : xs.length ≤ 1000000) :
    ∀ (n K i : Nat) (acc : ByteArray), i + n = xs.length → acc.size + 1000 * n ≤ 1000000 → say_Print.l0 (n + K + 1) acc xs (xs.length : Int) (i : Int) a b c d e f g h = some (printF a b c d e f g h (xs.drop i) acc) := by
  intro n
  induction n with
  | zero =>
    intro K i acc h1 h2
    rw [show 0 + K + 1 = K + 1 from by omega, say_Print.l0, if_neg (by omega), List.drop_eq_nil_of_le (by omega)]
    rfl
  | succ n ih =>
    intro K i acc h1 h2
    have hi : i < xs.length := by omega
    rw [show n + 1 + K + 1 = (n + K + 1) + 1 from by omega, say_Print.l0, if_pos (by omega), if_pos (by omega), if_pos (by omega), rd_at xs i hi, List.drop_eq_getElem_cons hi, printF]
    obtain ⟨t, ht, hs, hn⟩ := show_say a b c d e f g h he0 he1 hf hg xs[i]
    rw [ht, Option.bind_some]
    cases hq : showF a b c d e f g h xs[i] with
    | none => rw [if_neg (by rw [hn hq]; simp)]
    | some s =>
      have hsz := show_size a b c d e f g h he0 he1 hf hg _ s hq
      have h3 := hs s hq
      subst h3
      have hone : (⟨#[32]⟩ : ByteArray).size = 1 := rfl
      rw [if_pos rfl]
      simp only
      rw [if_pos (by omega), if_pos (by rw [size_join, hone]; omega), wrap64_of _ (by omega) (by omega), ← append_assoc']
      exact ih K (i + 1) _ (by omega) (by rw [size_join, size_join, hone]; omega)
end
/-- A step's line, or why it has none. -/
def lineF (a b c d e : Int) (f g : ByteArray) (h : Bool) : ByteArray × Int := if 1 ≤ a ∧ a ≤ 21 then printF a b c d e f g h (match say_form.f a with | some p => p.2 | none => []) (wd a) else (⟨#[]⟩, 1)
theorem print_one (a b c d e : Int) (f g : ByteArray) (h : Bool) (he0 : 0 ≤ e) (he1 : e < 18446744073709551616) (hf : f.size ≤ 300) (hg : g.size ≤ 300) (k : Nat) (hk : 10 ≤ k) :
    say_Print.f k a b c d e f g h = some (lineF a b c d e f g h) := by
  unfold lineF
  by_cases hr : 1 ≤ a ∧ a ≤ 21
  · obtain ⟨z, hz, hl, hsz, hwd⟩ := table a hr.1 hr.2
    have hcl : (codes z).length = z.size := by unfold codes; rw [List.length_map, size_list]
    rw [if_pos hr, hl]
    unfold say_Print.f
    rw [hl, Option.bind_some, if_neg (word_ne a hr.1 hr.2)]
    have := print_say a b c d e f g h he0 he1 hf hg (codes z) (by omega) (codes z).length (k - 1 - (codes z).length) 0 (wd a) (by omega) (by omega)
    rw [show (codes z).length + (k - 1 - (codes z).length) + 1 = k from by omega, List.drop_zero] at this
    exact this
  · rw [if_neg hr]
    have ho : a < 1 ∨ 21 < a := by omega
    unfold say_Print.f
    rw [form_other a ho, Option.bind_some, if_pos (by rw [bytes_toList])]
end Go.Proofs.YtflbkgpmepfhlaaDoor.SayPure
