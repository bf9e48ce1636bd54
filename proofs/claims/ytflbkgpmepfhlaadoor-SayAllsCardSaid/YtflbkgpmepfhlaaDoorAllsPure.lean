/- SayAlls returns true, whatever the steps: the plain laws, joined with the walk; and how a row of steps is read. -/
import Derived.Test.YtflbkgpmepfhlaaDoorPureCodes
import Derived.Test.YtflbkgpmepfhlaaDoorFtypes
import Derived.Test.YtflbkgpmepfhlaaDoorFsayform
import Derived.Test.YtflbkgpmepfhlaaDoorFgharryref25args
import Derived.Test.YtflbkgpmepfhlaaDoorFsayshow
import Derived.Test.YtflbkgpmepfhlaaDoorFsayPrint
import Derived.Test.YtflbkgpmepfhlaaDoorPureLine
import Derived.Test.YtflbkgpmepfhlaaDoorFsayScript
import Derived.Test.YtflbkgpmepfhlaaDoorFgharryref25known
import Derived.Test.YtflbkgpmepfhlaaDoorFgharryref25number
import Derived.Test.YtflbkgpmepfhlaaDoorFgharryref25Print
import Derived.Test.YtflbkgpmepfhlaaDoorFgharryref25Clean
import Derived.Test.YtflbkgpmepfhlaaDoorOpenAct
import Derived.Test.YtflbkgpmepfhlaaDoorAllsShort
import Derived.Test.YtflbkgpmepfhlaaDoorAllsLong
namespace Go.Proofs.YtflbkgpmepfhlaaDoor.SayPure
open Go.RowKit Go.Proofs.YtflbkgpmepfhlaaDoor.HSay Go.Proofs.YtflbkgpmepfhlaaDoor.Hook Go.Proofs.YtflbkgpmepfhlaaDoorW.PrintWords
set_option linter.unusedVariables false
def decB (n : Int) : ByteArray := ⟨(dec n.toNat).toArray⟩
theorem decB_size (n : Int) (h : n < 18446744073709551616) : (decB n).size ≤ 20 := by
  have : (decB n).size = (dec n.toNat).length := by rw [← size_list]; rfl
  rw [this]
  refine dec_le 19 _ ?_
  have h20 : (10 : Nat) ^ (19 + 1) = 100000000000000000000 := by decide
  omega
theorem digits_wrap (n : Int) : say_digits.f (IntKind.u64.wrap n) = some (decB (IntKind.u64.wrap n)) := by
  unfold say_digits.f
  rw [if_pos (by rw [u64w]; omega)]
  rfl
theorem digits_in (n : Int) (h0 : 0 ≤ n) (h1 : n < 18446744073709551616) : say_digits.f n = some (decB n) := by
  unfold say_digits.f
  rw [if_pos ⟨h0, h1⟩]
  rfl
/-- A whole number as a word. -/
def numF (a : Int) : Option ByteArray := if 0 ≤ a ∧ a ≤ 1073741824 then some (decB a) else none
theorem wrap_small (a : Int) (h0 : 0 ≤ a) (h1 : a ≤ 1073741824) : IntKind.u64.wrap a = a := by rw [u64w]; omega
/-- What a step's argument of a kind is as a word. -/
def showF (a b c d e : Int) (f g : ByteArray) (h : Bool) (x : Int) : Option ByteArray :=
  if x = 1 then numF c else if x = 2 then numF b else if x = 3 then numF d else if x = 4 then some (decB e) else if x = 5 then some (mkW f) else if x = 6 then some (mkW g) else some (if h then ⟨#[98, 111, 116, 104]⟩ else ⟨#[111, 110, 101]⟩)
theorem num_say (a : Int) : ∃ t : ByteArray × Bool, ((say_digits.f (IntKind.u64.wrap (a))).bind fun t328 => (if a ≥ 0 then (some (t328, decide (a ≤ 1073741824))) else (some (t328, false)))) = some t ∧ (∀ s, numF a = some s → t = (s, true)) ∧ (numF a = none → t.2 = false) := by
  rw [digits_wrap, Option.bind_some]
  unfold numF
  by_cases h0 : a ≥ 0
  · rw [if_pos h0]
    by_cases h1 : a ≤ 1073741824
    · refine ⟨_, rfl, ?_, ?_⟩
      · rw [if_pos ⟨h0, h1⟩, wrap_small a h0 h1, decide_eq_true h1]
        intro s hs
        rw [Option.some.inj hs]
      · rw [if_pos ⟨h0, h1⟩]; intro hs; cases hs
    · refine ⟨_, rfl, ?_, ?_⟩
      · rw [if_neg (by omega)]; intro s hs; cases hs
      · intro _; exact decide_eq_false h1
  · rw [if_neg h0]
    refine ⟨_, rfl, ?_, ?_⟩
    · rw [if_neg (by omega)]; intro s hs; cases hs
    · intro _; rfl
section
variable (a b c d e : Int) (f g : ByteArray) (h : Bool)
theorem show_say (he0 : 0 ≤ e) (he1 : e < 18446744073709551616) (hf : f.size ≤ 300) (hg : g.size ≤ 300) (x : Int) :
    ∃ t : ByteArray × Bool, say_show.f a b c d e f g h x = some t ∧ (∀ s, showF a b c d e f g h x = some s → t = (s, true)) ∧ (showF a b c d e f g h x = none → t.2 = false) := by
  unfold say_show.f showF
  by_cases h1 : x = 1
  · rw [if_pos h1, if_pos h1]; exact num_say c
  rw [if_neg h1, if_neg h1]
  by_cases h2 : x = 2
  · rw [if_pos h2, if_pos h2]; exact num_say b
  rw [if_neg h2, if_neg h2]
  by_cases h3 : x = 3
  · rw [if_pos h3, if_pos h3]; exact num_say d
  rw [if_neg h3, if_neg h3]
  by_cases h4 : x = 4
  · rw [if_pos h4, if_pos h4, digits_in e he0 he1, Option.bind_some]
    exact ⟨_, rfl, fun s hs => (by rw [Option.some.inj hs]), fun hs => (by cases hs)⟩
  rw [if_neg h4, if_neg h4]
  by_cases h5 : x = 5
  · rw [if_pos h5, if_pos h5, sayWord_f (by omega), Option.bind_some]
    exact ⟨_, rfl, fun s hs => (by rw [Option.some.inj hs]), fun hs => (by cases hs)⟩
  rw [if_neg h5, if_neg h5]
  by_cases h6 : x = 6
  · rw [if_pos h6, if_pos h6, sayWord_f (by omega), Option.bind_some]
    exact ⟨_, rfl, fun s hs => (by rw [Option.some.inj hs]), fun hs => (by cases hs)⟩
  rw [if_neg h6, if_neg h6]
  by_cases hh : h = true
  · rw [if_pos hh]
    exact ⟨_, rfl, fun s hs => (by rw [hh, if_pos rfl] at hs; rw [Option.some.inj hs]), fun hs => (by cases hs)⟩
  · rw [if_neg hh]
    exact ⟨_, rfl, fun s hs => (by rw [if_neg hh] at hs; rw [Option.some.inj hs]), fun hs => (by cases hs)⟩
theorem show_size (he0 : 0 ≤ e) (he1 : e < 18446744073709551616) (hf : f.size ≤ 300) (hg : g.size ≤ 300) (x : Int) (s : ByteArray) (hs : showF a b c d e f g h x = some s) : s.size ≤ 901 := by
  have num : ∀ n, numF n = some s → s.size ≤ 901 := by
    intro n hn
    unfold numF at hn
    split at hn
    · have := decB_size n (by omega)
      rw [← Option.some.inj hn]; omega
    · cases hn
  have hwf := mkW_size f
  have hwg := mkW_size g
  have hde := decB_size e he1
  unfold showF at hs
  split at hs
  · exact num _ hs
  split at hs
  · exact num _ hs
  split at hs
  · exact num _ hs
  split at hs
  · rw [← Option.some.inj hs]; omega
  split at hs
  · rw [← Option.some.inj hs]; omega
  split at hs
  · rw [← Option.some.inj hs]; omega
  · rw [← Option.some.inj hs]; cases h <;> decide
/-- The line, from what stands ahead of these arguments. -/
def printF : List Int → ByteArray → ByteArray × Int
  | [], acc => (acc, 0)
  | x :: xs, acc => match showF a b c d e f g h x with
    | some s => printF xs ((acc ++ ⟨#[32]⟩) ++ s)
    | none => (⟨#[]⟩, 6)
theorem rd_at (xs : List Int) (i : Nat) (hi : i < xs.length) : rd xs (i : Int) = xs[i] := by
  unfold rd
  rw [Int.toNat_natCast, List.getD_eq_getElem?_getD, List.getElem?_eq_getElem hi]
  rfl
theorem print_say (he0 : 0 ≤ e) (he1 : e < 18446744073709551616) (hf : f.size ≤ 300) (hg : g.size ≤ 300) (xs : List Int) (hxl : xs.length ≤ 1000000) :
    ∀ (n K i : Nat) (acc : ByteArray), i + n = xs.length → acc.size + 1000 * n ≤ 1000000 → say_Print.l0 (n + K + 1) acc xs (xs.length : Int) (i : Int) a b c d e f g h = some (printF a b c d e f g h (xs.drop i) acc) := by
  intro n
  induction n with
  | zero =>
    intro K i acc h1 h2
    rw [show 0 + K + 1 = K + 1 from by omega, say_Print.l0, if_neg (by omega), List.drop_eq_nil_of_le (by omega)]
    rfl
  | succ n ih =>
    intro K i acc h1 h2
    have hi : i < xs.length := by omega
    rw [show n + 1 + K + 1 = (n + K + 1) + 1 from by omega, say_Print.l0, if_pos (by omega), if_pos (by omega), if_pos (by omega), rd_at xs i hi, List.drop_eq_getElem_cons hi, printF]
    obtain ⟨t, ht, hs, hn⟩ := show_say a b c d e f g h he0 he1 hf hg xs[i]
    rw [ht, Option.bind_some]
    cases hq : showF a b c d e f g h xs[i] with
    | none => rw [if_neg (by rw [hn hq]; simp)]
    | some s =>
      have hsz := show_size a b c d e f g h he0 he1 hf hg _ s hq
      have h3 := hs s hq
      subst h3
      have hone : (⟨#[32]⟩ : ByteArray).size = 1 := rfl
      rw [if_pos rfl]
      simp only
      rw [if_pos (by omega), if_pos (by rw [size_join, hone]; omega), wrap64_of _ (by omega) (by omega), ← append_assoc']
      exact ih K (i + 1) _ (by omega) (by rw [size_join, size_join, hone]; omega)
end
/-- A step's line, or why it has none. -/
def lineF (a b c d e : Int) (f g : ByteArray) (h : Bool) : ByteArray × Int := if 1 ≤ a ∧ a ≤ 21 then printF a b c d e f g h (match say_form.f a with | some p => p.2 | none => []) (wd a) else (⟨#[]⟩, 1)
theorem print_one (a b c d e : Int) (f g : ByteArray) (h : Bool) (he0 : 0 ≤ e) (he1 : e < 18446744073709551616) (hf : f.size ≤ 300) (hg : g.size ≤ 300) (k : Nat) (hk : 10 ≤ k) :
    say_Print.f k a b c d e f g h = some (lineF a b c d e f g h) := by
  unfold lineF
  by_cases hr : 1 ≤ a ∧ a ≤ 21
  · obtain ⟨z, hz, hl, hsz, hwd⟩ := table a hr.1 hr.2
    have hcl : (codes z).length = z.size := by unfold codes; rw [List.length_map, size_list]
    rw [if_pos hr, hl]
    unfold say_Print.f
    rw [hl, Option.bind_some, if_neg (word_ne a hr.1 hr.2)]
    have := print_say a b c d e f g h he0 he1 hf hg (codes z) (by omega) (codes z).length (k - 1 - (codes z).length) 0 (wd a) (by omega) (by omega)
    rw [show (codes z).length + (k - 1 - (codes z).length) + 1 = k from by omega, List.drop_zero] at this
    exact this
  · rw [if_neg hr]
    have ho : a < 1 ∨ 21 < a := by omega
    unfold say_Print.f
    rw [form_other a ho, Option.bind_some, if_pos (by rw [bytes_toList])]
end Go.Proofs.YtflbkgpmepfhlaaDoor.SayPure
namespace Go.Proofs.YtflbkgpmepfhlaaDoor.SayPure
open Go.RowKit Go.Proofs.YtflbkgpmepfhlaaDoor.HSay Go.Proofs.YtflbkgpmepfhlaaDoor.Hook Go.Proofs.YtflbkgpmepfhlaaDoorW.PrintWords
set_option linter.unusedVariables false
def showT (t : T8) (x : Int) : Option ByteArray := showF t.1 t.2.1 t.2.2.1 t.2.2.2.1 t.2.2.2.2.1 t.2.2.2.2.2.1 t.2.2.2.2.2.2.1 t.2.2.2.2.2.2.2 x
def okT (n : Nat) (t : T8) : Prop := 0 ≤ t.2.2.2.2.1 ∧ t.2.2.2.2.1 < 18446744073709551616 ∧ t.2.2.2.2.2.1.size ≤ n ∧ t.2.2.2.2.2.2.1.size ≤ n
theorem codes7 {x : Int} (h : codeOk x) : x = 1 ∨ x = 2 ∨ x = 3 ∨ x = 4 ∨ x = 5 ∨ x = 6 ∨ x = 7 := by unfold codeOk at h; omega
theorem decB_back (w : ByteArray) (most n : Int) (h : countF w.data.toList most = (n, true)) : decB n = w ∧ 0 ≤ n ∧ n < 18446744073709551616 ∧ n ≤ most := by
  obtain ⟨h1, h2, h3, h4⟩ := dec_count _ _ _ h
  exact ⟨ext_list h1, h2, h3, h4⟩
theorem num_back (w : ByteArray) (h : (countF w.data.toList 1073741824).2 = true) : numF (countF w.data.toList 1073741824).1 = some w := by
  obtain ⟨h1, h2, h3, h4⟩ := decB_back w 1073741824 _ (show countF w.data.toList 1073741824 = ((countF w.data.toList 1073741824).1, true) by rw [← h])
  unfold numF
  rw [if_pos ⟨h2, h4⟩, h1]
theorem mkW_back (w : ByteArray) (s : List UInt8) (h : text w.data.toList = some s) : mkW ⟨s.toArray⟩ = w := ext_list (word_text _ _ h)
theorem both_back (w : ByteArray) (h : w.toList = [98, 111, 116, 104]) : (⟨#[98, 111, 116, 104]⟩ : ByteArray) = w := toList_inj (by rw [h, bytes_toList])
theorem one_back (w : ByteArray) (h : w.toList = [111, 110, 101]) : (⟨#[111, 110, 101]⟩ : ByteArray) = w := toList_inj (by rw [h, bytes_toList])
theorem read_show (t t' : T8) (x : Int) (w : ByteArray) (hx : codeOk x) (h : readF t x w = some t') :
    showT t' x = some w ∧ (∀ y, codeOk y → y ≠ x → showT t' y = showT t y) ∧ t'.1 = t.1 ∧ (∀ n, w.size ≤ n → okT n t → okT n t') := by
  have hcr := fun m => count_range w.data.toList m
  rcases codes7 hx with rfl | rfl | rfl | rfl | rfl | rfl | rfl
  · have eF : readF t 1 w = (if (countF w.data.toList 1073741824).2 = true then some (t.1, t.2.1, (countF w.data.toList 1073741824).1, t.2.2.2) else none) := by kernel_rfl
    rw [eF] at h
    split at h
    · rename_i hc
      obtain rfl := Option.some.inj h
      refine ⟨num_back w hc, fun y hy hne => ?_, rfl, fun n _ ho => ho⟩
      rcases codes7 hy with rfl | rfl | rfl | rfl | rfl | rfl | rfl
      all_goals first | exact absurd rfl hne | kernel_rfl
    · cases h
  · have eF : readF t 2 w = (if (countF w.data.toList 1073741824).2 = true then some (t.1, (countF w.data.toList 1073741824).1, t.2.2) else none) := by kernel_rfl
    rw [eF] at h
    split at h
    · rename_i hc
      obtain rfl := Option.some.inj h
      refine ⟨num_back w hc, fun y hy hne => ?_, rfl, fun n _ ho => ho⟩
      rcases codes7 hy with rfl | rfl | rfl | rfl | rfl | rfl | rfl
      all_goals first | exact absurd rfl hne | kernel_rfl
    · cases h
  · have eF : readF t 3 w = (if (countF w.data.toList 1073741824).2 = true then some (t.1, t.2.1, t.2.2.1, (countF w.data.toList 1073741824).1, t.2.2.2.2) else none) := by kernel_rfl
    rw [eF] at h
    split at h
    · rename_i hc
      obtain rfl := Option.some.inj h
      refine ⟨num_back w hc, fun y hy hne => ?_, rfl, fun n _ ho => ho⟩
      rcases codes7 hy with rfl | rfl | rfl | rfl | rfl | rfl | rfl
      all_goals first | exact absurd rfl hne | kernel_rfl
    · cases h
  · have eF : readF t 4 w = (if (countF w.data.toList 18446744073709551615).2 = true then some (t.1, t.2.1, t.2.2.1, t.2.2.2.1, (countF w.data.toList 18446744073709551615).1, t.2.2.2.2.2) else none) := by kernel_rfl
    rw [eF] at h
    split at h
    · rename_i hc
      obtain rfl := Option.some.inj h
      obtain ⟨h1, h2, h3, h4⟩ := decB_back w 18446744073709551615 _ (show countF w.data.toList 18446744073709551615 = ((countF w.data.toList 18446744073709551615).1, true) by rw [← hc])
      refine ⟨congrArg some h1, fun y hy hne => ?_, rfl, fun n _ ho => ⟨h2, h3, ho.2.2.1, ho.2.2.2⟩⟩
      rcases codes7 hy with rfl | rfl | rfl | rfl | rfl | rfl | rfl
      all_goals first | exact absurd rfl hne | kernel_rfl
    · cases h
  · have eF : readF t 5 w = (text w.data.toList).map fun s => (t.1, t.2.1, t.2.2.1, t.2.2.2.1, t.2.2.2.2.1, ⟨s.toArray⟩, t.2.2.2.2.2.2) := by kernel_rfl
    rw [eF] at h
    obtain ⟨s, hs, rfl⟩ := Option.map_eq_some_iff.1 h
    have hl := text_le _ _ hs
    refine ⟨congrArg some (mkW_back w s hs), fun y hy hne => ?_, rfl, fun n hn ho => ⟨ho.1, ho.2.1, ?_, ho.2.2.2⟩⟩
    · rcases codes7 hy with rfl | rfl | rfl | rfl | rfl | rfl | rfl
      all_goals first | exact absurd rfl hne | kernel_rfl
    · show (mkB s).size ≤ n
      rw [mkB_size]; rw [size_list] at hl; omega
  · have eF : readF t 6 w = (text w.data.toList).map fun s => (t.1, t.2.1, t.2.2.1, t.2.2.2.1, t.2.2.2.2.1, t.2.2.2.2.2.1, ⟨s.toArray⟩, t.2.2.2.2.2.2.2) := by kernel_rfl
    rw [eF] at h
    obtain ⟨s, hs, rfl⟩ := Option.map_eq_some_iff.1 h
    have hl := text_le _ _ hs
    refine ⟨congrArg some (mkW_back w s hs), fun y hy hne => ?_, rfl, fun n hn ho => ⟨ho.1, ho.2.1, ho.2.2.1, ?_⟩⟩
    · rcases codes7 hy with rfl | rfl | rfl | rfl | rfl | rfl | rfl
      all_goals first | exact absurd rfl hne | kernel_rfl
    · show (mkB s).size ≤ n
      rw [mkB_size]; rw [size_list] at hl; omega
  · have eF : readF t 7 w = if w.toList = [98, 111, 116, 104] then some (t.1, t.2.1, t.2.2.1, t.2.2.2.1, t.2.2.2.2.1, t.2.2.2.2.2.1, t.2.2.2.2.2.2.1, true) else if w.toList = [111, 110, 101] then some (t.1, t.2.1, t.2.2.1, t.2.2.2.1, t.2.2.2.2.1, t.2.2.2.2.2.1, t.2.2.2.2.2.2.1, false) else none := by kernel_rfl
    rw [eF] at h
    split at h
    · rename_i hc
      obtain rfl := Option.some.inj h
      refine ⟨congrArg some (both_back w hc), fun y hy hne => ?_, rfl, fun n _ ho => ho⟩
      rcases codes7 hy with rfl | rfl | rfl | rfl | rfl | rfl | rfl
      all_goals first | exact absurd rfl hne | kernel_rfl
    · split at h
      · rename_i hc
        obtain rfl := Option.some.inj h
        refine ⟨congrArg some (one_back w hc), fun y hy hne => ?_, rfl, fun n _ ho => ho⟩
        rcases codes7 hy with rfl | rfl | rfl | rfl | rfl | rfl | rfl
        all_goals first | exact absurd rfl hne | kernel_rfl
      · cases h
theorem read_all (n : Nat) : ∀ (xs : List Int) (ws : List ByteArray) (t t' : T8), readAll xs ws t = some t' → (∀ x ∈ xs, codeOk x) → xs.Nodup → xs.length = ws.length → (∀ w ∈ ws, w.size ≤ n) → okT n t →
    t'.1 = t.1 ∧ okT n t' ∧ (∀ y, codeOk y → y ∉ xs → showT t' y = showT t y) ∧ xs.map (showT t') = ws.map some := by
  intro xs
  induction xs with
  | nil =>
    intro ws t t' h _ _ hl _ ho
    rw [readAll] at h
    obtain rfl := Option.some.inj h
    cases ws with
    | nil => exact ⟨rfl, ho, fun _ _ _ => rfl, rfl⟩
    | cons w ws => simp at hl
  | cons x xs ih =>
    intro ws t t' h hx hn hl hw ho
    cases ws with
    | nil => simp at hl
    | cons w ws =>
      rw [readAll] at h
      obtain ⟨t1, h1, h2⟩ := Option.bind_eq_some_iff.1 h
      obtain ⟨s1, s2, s3, s4⟩ := read_show t t1 x w (hx x (by simp)) h1
      have hnx : x ∉ xs := (List.nodup_cons.1 hn).1
      obtain ⟨i1, i2, i3, i4⟩ := ih ws t1 t' h2 (fun y hy => hx y (by simp [hy])) (List.nodup_cons.1 hn).2 (by simpa using hl) (fun y hy => hw y (by simp [hy])) (s4 n (hw w (by simp)) ho)
      refine ⟨i1.trans s3, i2, fun y hy hny => ?_, ?_⟩
      · rw [i3 y hy (fun e => hny (by simp [e])), s2 y hy (fun e => hny (by simp [e]))]
      · rw [List.map_cons, List.map_cons, i4, i3 x (hx x (by simp)) hnx, s1]
def joinT (acc : ByteArray) (ws : List ByteArray) : ByteArray := ws.foldl (fun a w => (a ++ ⟨#[32]⟩) ++ w) acc
def printT (t : T8) (xs : List Int) (acc : ByteArray) : ByteArray × Int := printF t.1 t.2.1 t.2.2.1 t.2.2.2.1 t.2.2.2.2.1 t.2.2.2.2.2.1 t.2.2.2.2.2.2.1 t.2.2.2.2.2.2.2 xs acc
theorem printT_cons (t : T8) (x : Int) (xs : List Int) (acc : ByteArray) : printT t (x :: xs) acc = match showT t x with
    | some s => printT t xs ((acc ++ ⟨#[32]⟩) ++ s)
    | none => (⟨#[]⟩, 6) := rfl
theorem print_words (t : T8) : ∀ (xs : List Int) (ws : List ByteArray) (acc : ByteArray), xs.map (showT t) = ws.map some → printT t xs acc = (joinT acc ws, 0) := by
  intro xs
  induction xs with
  | nil =>
    intro ws acc h
    cases ws with
    | nil => rfl
    | cons w ws => simp at h
  | cons x xs ih =>
    intro ws acc h
    cases ws with
    | nil => simp at h
    | cons w ws =>
      rw [List.map_cons, List.map_cons] at h
      obtain ⟨h1, h2⟩ := List.cons.inj h
      rw [printT_cons, h1]
      exact ih ws _ h2
theorem print_ok (t : T8) : ∀ (xs : List Int) (acc s : ByteArray), printT t xs acc = (s, 0) → ∃ ws : List ByteArray, xs.map (showT t) = ws.map some ∧ s = joinT acc ws := by
  intro xs
  induction xs with
  | nil => intro acc s h; exact ⟨[], rfl, (Prod.mk.inj h).1.symm⟩
  | cons x xs ih =>
    intro acc s h
    rw [printT_cons] at h
    cases hq : showT t x with
    | none => rw [hq] at h; exact absurd (Prod.mk.inj h).2 (by decide)
    | some w =>
      rw [hq] at h
      obtain ⟨ws, h1, h2⟩ := ih _ s h
      exact ⟨w :: ws, by rw [List.map_cons, List.map_cons, h1, hq], h2⟩
theorem append_list (a b : ByteArray) : (a ++ b).data.toList = a.data.toList ++ b.data.toList := by
  rw [ByteArray.data_append, Array.toList_append]
theorem join_list : ∀ (ws : List ByteArray) (acc : ByteArray), (joinT acc ws).data.toList = acc.data.toList ++ (ws.map fun w => w.data.toList).flatMap (fun q => (32 : UInt8) :: q) := by
  intro ws
  induction ws with
  | nil => intro acc; simp [joinT]
  | cons w ws ih =>
    intro acc
    have := ih ((acc ++ ⟨#[32]⟩) ++ w)
    show (joinT ((acc ++ ⟨#[32]⟩) ++ w) ws).data.toList = _
    rw [this, append_list, append_list, List.map_cons, List.flatMap_cons]
    simp
theorem join_size : ∀ (ws : List ByteArray) (acc : ByteArray) (m : Nat), (∀ w ∈ ws, w.size ≤ m) → (joinT acc ws).size ≤ acc.size + (m + 1) * ws.length := by
  intro ws
  induction ws with
  | nil => intro acc m _; show acc.size ≤ _; simp
  | cons w ws ih =>
    intro acc m h
    have h1 := ih ((acc ++ ⟨#[32]⟩) ++ w) m (fun x hx => h x (by simp [hx]))
    have h2 := h w (by simp)
    rw [size_join, size_join, show (⟨#[32]⟩ : ByteArray).size = 1 from rfl] at h1
    show (joinT ((acc ++ ⟨#[32]⟩) ++ w) ws).size ≤ _
    rw [List.length_cons, Nat.mul_succ]
    omega
theorem tables2 : ∀ j : Fin 22, 1 ≤ j.val → (codesOf (j.val : Int)).Nodup ∧ (32 : UInt8) ∉ (wd (j.val : Int)).data.toList ∧ wantF (wd (j.val : Int)) 21 1 0 = (j.val : Int) := by decide +kernel
theorem table2 (j : Int) (h1 : 1 ≤ j) (h2 : j ≤ 21) : (codesOf j).Nodup ∧ (32 : UInt8) ∉ (wd j).data.toList ∧ wantF (wd j) 21 1 0 = j := by
  have := tables2 ⟨j.toNat, by omega⟩ (by show 1 ≤ j.toNat; omega)
  simpa only [show ((j.toNat : Nat) : Int) = j from by omega] using this
/-- What is parsed is printed as it was. -/
theorem line_parse (s : ByteArray) (t : T8) (n : Nat) (hs : s.size ≤ n) (h : parseF s = some t) : lineF t.1 t.2.1 t.2.2.1 t.2.2.2.1 t.2.2.2.2.1 t.2.2.2.2.2.1 t.2.2.2.2.2.2.1 t.2.2.2.2.2.2.2 = (s, 0) ∧ okT n t := by
  unfold parseF at h
  split at h
  · cases h
  rename_i h0
  split at h
  · rename_i hlen
    obtain ⟨h1, h2, h3⟩ := kind_range s h0
    obtain ⟨z, hz, hc, hsz, hf, hcl⟩ := codesOf_eq _ h1 h2
    obtain ⟨hnd, _, _⟩ := table2 _ h1 h2
    have hso : splitL 32 s.data.toList ≠ [] := split_ne _ _
    cases hsp : splitL 32 s.data.toList with
    | nil => exact absurd hsp hso
    | cons p r =>
      have hw : wordsOf s = mkB p :: r.map mkB := by unfold wordsOf; rw [hsp]; rfl
      rw [hw] at h3 hlen
      have hd : (wordsOf s).drop 1 = r.map mkB := by rw [hw]; rfl
      rw [hd] at h
      have hws : ∀ w ∈ r.map mkB, w.size ≤ n := fun w hm => Nat.le_trans (words_size s w (by rw [hw]; simp [hm])) hs
      obtain ⟨i1, i2, _, i4⟩ := read_all n _ _ _ _ h (by rw [hc]; exact codes_ok z) hnd (by simpa using hlen) hws ⟨(show (0 : Int) ≤ 0 by decide), (show (0 : Int) < 18446744073709551616 by decide), Nat.zero_le _, Nat.zero_le _⟩
      refine ⟨?_, i2⟩
      have hk : t.1 = kindOf s := i1
      unfold lineF
      rw [if_pos (by rw [hk]; exact ⟨h1, h2⟩), hk, hf]
      have := print_words t (codes z) (r.map mkB) (wd (kindOf s)) (by rw [← hc]; exact i4)
      unfold printT at this
      rw [hk] at this
      refine this.trans ?_
      congr 1
      apply ext_list
      rw [join_list, h3]
      show p ++ _ = _
      rw [List.map_map]
      have he : (r.map ((fun w : ByteArray => w.data.toList) ∘ mkB)) = r := by
        conv => rhs; rw [← List.map_id r]
        rfl
      rw [he]
      exact split_join 32 _ p r hsp
  · cases h
end Go.Proofs.YtflbkgpmepfhlaaDoor.SayPure
namespace Go.Proofs.YtflbkgpmepfhlaaDoor.SayPure
open Go.RowKit Go.Proofs.YtflbkgpmepfhlaaDoor.HSay Go.Proofs.YtflbkgpmepfhlaaDoor.Hook Go.Proofs.YtflbkgpmepfhlaaDoorW.PrintWords
set_option linter.unusedVariables false
theorem sayParse_some {s : ByteArray} (hs : s.size ≤ 1000000) {t : T8} (h : parseF s = some t) : say_Parse.f s = some (t.1, t.2.1, t.2.2.1, t.2.2.2.1, t.2.2.2.2.1, t.2.2.2.2.2.1, t.2.2.2.2.2.2.1, t.2.2.2.2.2.2.2, 0) := by
  unfold say_Parse.f
  rw [say_parse s hs, h]
  rfl
theorem sayParse_none {s : ByteArray} (hs : s.size ≤ 1000000) (h : parseF s = none) : say_Parse.f s = some (0, 0, 0, 0, 0, ⟨#[]⟩, ⟨#[]⟩, false, 4) := by
  unfold say_Parse.f
  rw [say_parse s hs, h]
  rfl
def toS (t : T8) : S32 := ⟨t.1, t.2.1, t.2.2.1, t.2.2.2.1, t.2.2.2.2.1, t.2.2.2.2.2.1, t.2.2.2.2.2.2.1, t.2.2.2.2.2.2.2⟩
/-- The steps of lines; or which one is none. -/
def scriptF : List ByteArray → Nat → List S32 → List S32 × Int × Int
  | [], _, acc => (acc, 0, 0)
  | l :: ls, i, acc => match parseF l with
    | some t => scriptF ls (i + 1) (acc ++ [toS t])
    | none => ([], (i : Int), 4)
theorem script_end : ∀ (ls : List ByteArray) (i : Nat) (acc : List S32), (scriptF ls i acc).2.2 = 0 ∧ (scriptF ls i acc).2.1 = 0 ∨ (scriptF ls i acc).2.2 = 4 ∧ (scriptF ls i acc).1 = [] := by
  intro ls
  induction ls with
  | nil => intro i acc; exact Or.inl ⟨rfl, rfl⟩
  | cons l ls ih =>
    intro i acc
    rw [scriptF]
    split
    · exact ih _ _
    · exact Or.inr ⟨rfl, rfl⟩
theorem script_loop (ls : List ByteArray) (hl : ∀ l ∈ ls, l.size ≤ 1000000) (hn : ls.length ≤ 1000000) : ∀ (n K i : Nat) (acc : List S32), i + n = ls.length → acc.length = i →
    say_Script.l0 (n + K + 1) acc ls (ls.length : Int) (i : Int) = some (scriptF (ls.drop i) i acc) := by
  intro n
  induction n with
  | zero =>
    intro K i acc hi ha
    rw [show 0 + K + 1 = K + 1 from by omega, say_Script.l0, if_neg (by omega), List.drop_eq_nil_of_le (by omega)]
    rfl
  | succ n ih =>
    intro K i acc hi ha
    have hil : i < ls.length := by omega
    have hsz := hl ls[i] (List.getElem_mem hil)
    have hrd : rdOf ByteArray.empty ls (i : Int) = ls[i] := by
      unfold rdOf
      rw [Int.toNat_natCast, List.getD_eq_getElem?_getD, List.getElem?_eq_getElem hil]
      rfl
    rw [show n + 1 + K + 1 = (n + K + 1) + 1 from by omega, say_Script.l0, if_pos (by omega), if_pos (by omega), if_pos (by omega), hrd, List.drop_eq_getElem_cons hil, scriptF]
    cases hq : parseF ls[i] with
    | some t =>
      rw [sayParse_some hsz hq, Option.bind_some, if_pos rfl, if_pos (by omega), wrap64_of _ (by omega) (by omega)]
      exact ih K (i + 1) (acc ++ [toS t]) (by omega) (by simp; omega)
    | none =>
      rw [sayParse_none hsz hq, Option.bind_some, if_neg (show ¬ (4 : Int) = 0 by decide)]
/-- A text without a break at its end. -/
def trimL : List UInt8 → List UInt8
  | [] => []
  | [b] => if b = 10 then [] else [b]
  | b :: c :: l => b :: trimL (c :: l)
theorem trim_snoc (b : UInt8) : ∀ p : List UInt8, trimL (p ++ [b]) = if b = 10 then p else p ++ [b]
  | [] => by rw [List.nil_append, trimL]
  | [c] => by
    show c :: trimL [b] = _
    rw [trimL]
    split <;> rfl
  | c :: d :: p => by
    show c :: trimL ((d :: p) ++ [b]) = _
    rw [trim_snoc b (d :: p)]
    split <;> rfl
theorem trim_app (b : UInt8) (D : List UInt8) (hD : D ≠ []) : ∀ p : List UInt8, trimL (p ++ b :: D) = p ++ b :: trimL D
  | [] => by
    cases D with
    | nil => exact absurd rfl hD
    | cons d D => rfl
  | [c] => by
    show c :: trimL (b :: D) = _
    have := trim_app b D hD []
    rw [List.nil_append, List.nil_append] at this
    rw [this]
    rfl
  | c :: d :: p => by
    show c :: trimL ((d :: p) ++ b :: D) = _
    rw [trim_app b D hD (d :: p)]
    rfl
theorem trim_none : ∀ p : List UInt8, (10 : UInt8) ∉ p → trimL p = p
  | [], _ => rfl
  | [b], h => by rw [trimL, if_neg (fun e => h (by simp [e]))]
  | b :: c :: l, h => by rw [trimL, trim_none (c :: l) (fun e => h (by simp [e]))]
theorem trim_len : ∀ p : List UInt8, (trimL p).length ≤ p.length
  | [] => Nat.le_refl _
  | [b] => by rw [trimL]; split <;> simp
  | b :: c :: l => by
    have := trim_len (c :: l)
    rw [trimL]
    simp only [List.length_cons] at this ⊢
    omega
/-- A text's lines. -/
def linesT (D : List UInt8) : List (List UInt8) := if D = [] then [] else splitL 10 (trimL D)
theorem lines_one (p : List UInt8) (hp : p ≠ []) (h : (10 : UInt8) ∉ p) : linesT p = [p] := by
  unfold linesT
  rw [if_neg hp, trim_none p h, split_none 10 p h]
theorem lines_last (p : List UInt8) (h : (10 : UInt8) ∉ p) : linesT (p ++ [10]) = [p] := by
  unfold linesT
  rw [if_neg (by simp), trim_snoc, if_pos rfl, split_none 10 p h]
theorem lines_cons (p D : List UInt8) (h : (10 : UInt8) ∉ p) (hD : D ≠ []) : linesT (p ++ 10 :: D) = p :: linesT D := by
  unfold linesT
  rw [if_neg (by simp), if_neg hD, trim_app 10 D hD p, split_pre 10 _ p h]
theorem lines_next (p D : List UInt8) (h : (10 : UInt8) ∉ p) : linesT (p ++ 10 :: D) = p :: linesT D := by
  by_cases hD : D = []
  · subst hD
    rw [lines_last p h]
    rfl
  · exact lines_cons p D h hD
theorem trim_f (s : ByteArray) (h0 : s.data.toList ≠ []) (hs : s.size ≤ 1000000) : strings_TrimSuffix.f s ⟨#[10]⟩ = some (mkB (trimL s.data.toList)) := by
  have hL := size_list s
  obtain ⟨p, b, hpb⟩ : ∃ p b, s.data.toList = p ++ [b] := ⟨_, _, (List.dropLast_concat_getLast h0).symm⟩
  have hsz : s.size = p.length + 1 := by rw [← hL, hpb]; simp
  have hone : ((⟨#[10]⟩ : ByteArray).size : Int) = 1 := rfl
  have hw : wrap64 ((s.size : Int) - 1) = (p.length : Int) := by rw [wrap64_of _ (by omega) (by omega)]; omega
  unfold strings_TrimSuffix.f stringslite_TrimSuffix.f stringslite_HasSuffix.f
  rw [hone, hw, if_pos (by omega), if_pos (by omega), if_pos (by omega), Option.bind_some, Int.toNat_natCast, extract_mk, extract_mk]
  have e1 : (s.data.toList.drop p.length).take (s.size - p.length) = [b] := by
    rw [hpb, List.drop_left, hsz]
    simp
  have e2 : (s.data.toList.drop 0).take (p.length - 0) = p := by
    rw [hpb]
    simp
  rw [e1, e2, hpb, trim_snoc]
  have hb : ((mkB [b]).toList == (⟨#[10]⟩ : ByteArray).toList) = decide (b = 10) := by
    rw [bytes_toList, bytes_toList]
    show ([b] == [10]) = _
    by_cases hb : b = 10
    · subst hb; rfl
    · rw [decide_eq_false hb]
      simpa using hb
  rw [hb]
  by_cases hbb : b = 10
  · rw [if_pos (decide_eq_true hbb), if_pos (by omega), if_pos (by omega), if_pos hbb]
    rfl
  · rw [decide_eq_false hbb, if_neg (by simp), if_neg hbb, ← hpb]
    show some s = _
    congr 1
    try exact ext_list rfl
theorem script_few (s : ByteArray) (hs : s.size ≤ 900000) (n : Nat) (hn : (linesT s.data.toList).length ≤ n) (hn1 : n ≤ 1000000) (k : Nat) (hk : n + 1 ≤ k) : say_Script.f k s = some (scriptF ((linesT s.data.toList).map mkB) 0 []) := by
  have hL := size_list s
  unfold say_Script.f
  unfold linesT at hn ⊢
  by_cases h0 : s.data.toList = []
  · rw [if_pos (by rw [bytes_toList]; exact h0), if_pos h0]
    try rfl
  · rw [if_neg (by rw [bytes_toList]; exact h0), if_neg h0, trim_f s h0 (by omega), Option.bind_some]
    have htl := trim_len s.data.toList
    have hsp : strings_Split.f (mkB (trimL s.data.toList)) ⟨#[10]⟩ = some ((splitL 10 (trimL s.data.toList)).map mkB) := if_pos (by rw [mkB_size]; omega)
    rw [hsp, Option.bind_some]
    have hcnt : ((splitL 10 (trimL s.data.toList)).map mkB).length ≤ n := by
      rw [if_neg h0] at hn
      rw [List.length_map]
      exact hn
    have := script_loop ((splitL 10 (trimL s.data.toList)).map mkB) (by
      intro l hl
      obtain ⟨q, hq, rfl⟩ := List.mem_map.1 hl
      have := split_len 10 _ q hq
      rw [mkB_size]; omega) (by omega) _ (k - 1 - ((splitL 10 (trimL s.data.toList)).map mkB).length) 0 [] (Nat.zero_add _) rfl
    rw [show ((splitL 10 (trimL s.data.toList)).map mkB).length + (k - 1 - ((splitL 10 (trimL s.data.toList)).map mkB).length) + 1 = k from by omega, List.drop_zero] at this
    exact this
end Go.Proofs.YtflbkgpmepfhlaaDoor.SayPure
namespace Go.Proofs.YtflbkgpmepfhlaaDoor.SayPure
open Go.RowKit Go.Proofs.YtflbkgpmepfhlaaDoor.HSay Go.Proofs.YtflbkgpmepfhlaaDoor.Hook Go.Proofs.YtflbkgpmepfhlaaDoorW.PrintWords
set_option linter.unusedVariables false
theorem number_in (n : Int) (h0 : 0 ≤ n) (h1 : n < 18446744073709551616) : gharryref25_Number.f n = some (decB n) := by
  unfold gharryref25_Number.f
  rw [if_pos ⟨h0, h1⟩]
  rfl
theorem num_ref (a : Int) : ∃ t : ByteArray × Bool, gharryref25_number.f a = some t ∧ (∀ s, numF a = some s → t = (s, true)) ∧ (numF a = none → t.2 = false) := by
  unfold gharryref25_number.f numF
  by_cases h0 : a < 0
  · rw [if_pos h0]
    exact ⟨_, rfl, fun s hs => (by rw [if_neg (by omega)] at hs; cases hs), fun _ => rfl⟩
  · rw [if_neg h0]
    by_cases h1 : a > 1073741824
    · rw [if_pos h1]
      exact ⟨_, rfl, fun s hs => (by rw [if_neg (by omega)] at hs; cases hs), fun _ => rfl⟩
    · rw [if_neg h1, wrap_small a (by omega) (by omega), number_in a (by omega) (by omega), Option.bind_some]
      exact ⟨_, rfl, fun s hs => (by rw [if_pos (by omega)] at hs; rw [Option.some.inj hs]), fun hs => (by rw [if_pos (by omega)] at hs; cases hs)⟩
section
variable (a b c d e : Int) (f g : ByteArray) (h : Bool)
theorem print_ref (he0 : 0 ≤ e) (he1 : e < 18446744073709551616) (hf : f.size ≤ 300) (hg : g.size ≤ 300) (z : ByteArray) (hzl : z.size ≤ 1000000) :
    ∀ (n K i : Nat) (acc : ByteArray), i + n = z.size → acc.size + 1000 * n ≤ 1000000 → gharryref25_Print.l0 (n + K + 1) acc z (i : Int) a b c d e f g h = some (printF a b c d e f g h ((codes z).drop i) acc) := by
  have hcl : (codes z).length = z.size := by unfold codes; rw [List.length_map, size_list]
  intro n
  induction n with
  | zero =>
    intro K i acc h1 h2
    rw [show 0 + K + 1 = K + 1 from by omega, gharryref25_Print.l0, if_neg (by omega), List.drop_eq_nil_of_le (by omega)]
    rfl
  | succ n ih =>
    intro K i acc h1 h2
    have hi : i < z.size := by omega
    have hi' : i < z.data.toList.length := by rw [size_list]; exact hi
    have hw := wrap64_of ((i : Int) + 1) (by omega) (by omega)
    rw [show n + 1 + K + 1 = (n + K + 1) + 1 from by omega, gharryref25_Print.l0, if_pos (by omega), if_pos (by omega), List.drop_eq_getElem_cons (by omega), printF]
    have hc : (codes z)[i]'(by omega) = codeN (bt z (i : Int)) := by
      unfold codes
      rw [List.getElem_map, byte_of_bt z i hi]
    rw [hc, hw]
    generalize hb : bt z (i : Int) = u
    have hone : (⟨#[32]⟩ : ByteArray).size = 1 := rfl
    have go : ∀ s : ByteArray, s.size ≤ 901 → (if acc.size + 1 ≤ 9223372036854775807 then (if (acc ++ (⟨#[32]⟩ : ByteArray)).size + s.size ≤ 9223372036854775807 then (gharryref25_Print.l0 (n + K + 1) ((acc ++ (⟨#[32]⟩ : ByteArray)) ++ s) z ((i : Int) + 1) a b c d e f g h) else (none)) else (none)) = some (printF a b c d e f g h ((codes z).drop (i + 1)) ((acc ++ (⟨#[32]⟩ : ByteArray)) ++ s)) := by
      intro s hs
      rw [if_pos (by omega), if_pos (by rw [size_join, hone]; omega)]
      exact ih K (i + 1) _ (by omega) (by rw [size_join, size_join, hone]; omega)
    have gon : ∀ v : Int, ((gharryref25_number.f v).bind fun bt350 => (if bt350.2 = true then (if acc.size + 1 ≤ 9223372036854775807 then (if (acc ++ (⟨#[32]⟩ : ByteArray)).size + bt350.1.size ≤ 9223372036854775807 then (gharryref25_Print.l0 (n + K + 1) ((acc ++ (⟨#[32]⟩ : ByteArray)) ++ bt350.1) z ((i : Int) + 1) a b c d e f g h) else (none)) else (none)) else (some ((⟨#[]⟩ : ByteArray), 6)))) = some (match numF v with | some s => printF a b c d e f g h ((codes z).drop (i + 1)) ((acc ++ (⟨#[32]⟩ : ByteArray)) ++ s) | none => (⟨#[]⟩, 6)) := by
      intro v
      obtain ⟨t, ht, hs, hn⟩ := num_ref v
      rw [ht, Option.bind_some]
      cases hq : numF v with
      | none => rw [if_neg (by rw [hn hq]; simp)]
      | some s =>
        have h3 := hs s hq
        subst h3
        rw [if_pos rfl]
        refine go s ?_
        unfold numF at hq
        split at hq
        · have := decB_size v (by omega)
          rw [← Option.some.inj hq]; omega
        · cases hq
    have hwf := mkW_size f
    have hwg := mkW_size g
    have hde := decB_size e he1
    by_cases u1 : u = 119
    · rw [if_pos u1, gon c]; subst u1; rfl
    rw [if_neg u1]
    by_cases u2 : u = 110
    · rw [if_pos u2, gon b]; subst u2; rfl
    rw [if_neg u2]
    by_cases u3 : u = 107
    · rw [if_pos u3, refWord_f (by omega), Option.bind_some, go _ (by omega)]; subst u3; rfl
    rw [if_neg u3]
    by_cases u4 : u = 118
    · rw [if_pos u4, refWord_f (by omega), Option.bind_some, go _ (by omega)]; subst u4; rfl
    rw [if_neg u4]
    by_cases u5 : u = 99
    · rw [if_pos u5, gon d]; subst u5; rfl
    rw [if_neg u5]
    by_cases u6 : u = 109
    · rw [if_pos u6, number_in e he0 he1, Option.bind_some, go _ (by omega)]; subst u6; rfl
    rw [if_neg u6]
    have hcode : codeN u = 7 := by unfold codeN; rw [if_neg u1, if_neg u2, if_neg u3, if_neg u4, if_neg u5, if_neg u6]
    rw [hcode]
    have hsh : showF a b c d e f g h 7 = some (if h then ⟨#[98, 111, 116, 104]⟩ else ⟨#[111, 110, 101]⟩) := rfl
    rw [hsh]
    by_cases hh : h = true
    · rw [if_pos hh]
      refine (go ⟨#[98, 111, 116, 104]⟩ (by decide)).trans ?_
      rw [if_pos hh]
    · rw [if_neg hh]
      refine (go ⟨#[111, 110, 101]⟩ (by decide)).trans ?_
      rw [if_neg hh]
end
theorem print_both (a b c d e : Int) (f g : ByteArray) (h : Bool) (he0 : 0 ≤ e) (he1 : e < 18446744073709551616) (hf : f.size ≤ 300) (hg : g.size ≤ 300) (k : Nat) (hk : 10 ≤ k) :
    say_Print.f k a b c d e f g h = some (lineF a b c d e f g h) ∧ gharryref25_Print.f k a b c d e f g h = some (lineF a b c d e f g h) := by
  unfold lineF
  by_cases hr : 1 ≤ a ∧ a ≤ 21
  · obtain ⟨z, hz, hl, hsz, hwd⟩ := table a hr.1 hr.2
    have hcl : (codes z).length = z.size := by unfold codes; rw [List.length_map, size_list]
    rw [if_pos hr, hl]
    constructor
    · unfold say_Print.f
      rw [hl, Option.bind_some, if_neg (word_ne a hr.1 hr.2)]
      have := print_say a b c d e f g h he0 he1 hf hg (codes z) (by omega) (codes z).length (k - 1 - (codes z).length) 0 (wd a) (by omega) (by omega)
      rw [show (codes z).length + (k - 1 - (codes z).length) + 1 = k from by omega, List.drop_zero] at this
      exact this
    · unfold gharryref25_Print.f gharryref25_known.f
      have hwl : (wordsB.length : Int) = 22 := by decide
      rw [if_pos (by omega), Option.bind_some, if_pos (decide_eq_true hr.2), words_f, Option.bind_some, if_pos (by omega), if_pos (by omega), hz, Option.bind_some]
      have := print_ref a b c d e f g h he0 he1 hf hg z (by omega) z.size (k - 1 - z.size) 0 (wd a) (by omega) (by omega)
      rw [show z.size + (k - 1 - z.size) + 1 = k from by omega, List.drop_zero] at this
      exact this
  · rw [if_neg hr]
    have ho : a < 1 ∨ 21 < a := by omega
    constructor
    · unfold say_Print.f
      rw [form_other a ho, Option.bind_some, if_pos (by rw [bytes_toList])]
    · unfold gharryref25_Print.f gharryref25_known.f
      rcases ho with ho | ho
      · rw [if_neg (by omega), Option.bind_some, if_neg (by simp)]
      · rw [if_pos (by omega), Option.bind_some, if_neg (by simp; omega)]
end Go.Proofs.YtflbkgpmepfhlaaDoor.SayPure
namespace Go.Proofs.YtflbkgpmepfhlaaDoor.SayPure
open Go.RowKit Go.Proofs.YtflbkgpmepfhlaaDoor.HSay Go.Proofs.YtflbkgpmepfhlaaDoor.Hook Go.Proofs.YtflbkgpmepfhlaaDoorW.PrintWords
set_option linter.unusedVariables false
/-- One field of p, put into t. -/
def setF (p t : T8) (x : Int) : T8 :=
  if x = 1 then (t.1, t.2.1, p.2.2.1, t.2.2.2) else if x = 2 then (t.1, p.2.1, t.2.2) else if x = 3 then (t.1, t.2.1, t.2.2.1, p.2.2.2.1, t.2.2.2.2)
  else if x = 4 then (t.1, t.2.1, t.2.2.1, t.2.2.2.1, p.2.2.2.2.1, t.2.2.2.2.2) else if x = 5 then (t.1, t.2.1, t.2.2.1, t.2.2.2.1, t.2.2.2.2.1, p.2.2.2.2.2.1, t.2.2.2.2.2.2)
  else if x = 6 then (t.1, t.2.1, t.2.2.1, t.2.2.2.1, t.2.2.2.2.1, t.2.2.2.2.2.1, p.2.2.2.2.2.2.1, t.2.2.2.2.2.2.2) else (t.1, t.2.1, t.2.2.1, t.2.2.2.1, t.2.2.2.2.1, t.2.2.2.2.2.1, t.2.2.2.2.2.2.1, p.2.2.2.2.2.2.2)
def cleanF (p : T8) : T8 := (codesOf p.1).foldl (setF p) (zero8 p.1)
theorem count_of_num (a : Int) (w : ByteArray) (h : numF a = some w) : countF w.data.toList 1073741824 = (a, true) := by
  unfold numF at h
  split at h
  · rename_i hr
    obtain rfl := Option.some.inj h
    exact count_dec a 1073741824 hr.1 (by omega) hr.2
  · cases h
theorem show_read (p t : T8) (x : Int) (w : ByteArray) (hx : codeOk x) (ho : 0 ≤ p.2.2.2.2.1 ∧ p.2.2.2.2.1 < 18446744073709551616) (h : showT p x = some w) : readF t x w = some (setF p t x) := by
  obtain ⟨p0, p1, p2, p3, p4, p5, p6, p7⟩ := p
  rcases codes7 hx with rfl | rfl | rfl | rfl | rfl | rfl | rfl
  · have eF : readF t 1 w = (if (countF w.data.toList 1073741824).2 = true then some (t.1, t.2.1, (countF w.data.toList 1073741824).1, t.2.2.2) else none) := by kernel_rfl
    have h' : numF p2 = some w := h
    rw [eF, count_of_num _ _ h', if_pos rfl]
    rfl
  · have eF : readF t 2 w = (if (countF w.data.toList 1073741824).2 = true then some (t.1, (countF w.data.toList 1073741824).1, t.2.2) else none) := by kernel_rfl
    have h' : numF p1 = some w := h
    rw [eF, count_of_num _ _ h', if_pos rfl]
    rfl
  · have eF : readF t 3 w = (if (countF w.data.toList 1073741824).2 = true then some (t.1, t.2.1, t.2.2.1, (countF w.data.toList 1073741824).1, t.2.2.2.2) else none) := by kernel_rfl
    have h' : numF p3 = some w := h
    rw [eF, count_of_num _ _ h', if_pos rfl]
    rfl
  · have eF : readF t 4 w = (if (countF w.data.toList 18446744073709551615).2 = true then some (t.1, t.2.1, t.2.2.1, t.2.2.2.1, (countF w.data.toList 18446744073709551615).1, t.2.2.2.2.2) else none) := by kernel_rfl
    have h' : some (decB p4) = some w := h
    obtain rfl := Option.some.inj h'
    have hc : countF (decB p4).data.toList 18446744073709551615 = (p4, true) := count_dec p4 _ ho.1 ho.2 (by have := ho.2; simp only at this; omega)
    rw [eF, hc, if_pos rfl]
    rfl
  · have eF : readF t 5 w = (text w.data.toList).map fun s => (t.1, t.2.1, t.2.2.1, t.2.2.2.1, t.2.2.2.2.1, ⟨s.toArray⟩, t.2.2.2.2.2.2) := by kernel_rfl
    have h' : some (mkW p5) = some w := h
    obtain rfl := Option.some.inj h'
    rw [eF, mkW_list, text_word, Option.map_some]
    have : (⟨p5.data.toList.toArray⟩ : ByteArray) = p5 := by cases p5; simp
    rw [this]
    rfl
  · have eF : readF t 6 w = (text w.data.toList).map fun s => (t.1, t.2.1, t.2.2.1, t.2.2.2.1, t.2.2.2.2.1, t.2.2.2.2.2.1, ⟨s.toArray⟩, t.2.2.2.2.2.2.2) := by kernel_rfl
    have h' : some (mkW p6) = some w := h
    obtain rfl := Option.some.inj h'
    rw [eF, mkW_list, text_word, Option.map_some]
    have : (⟨p6.data.toList.toArray⟩ : ByteArray) = p6 := by cases p6; simp
    rw [this]
    rfl
  · have eF : readF t 7 w = if w.toList = [98, 111, 116, 104] then some (t.1, t.2.1, t.2.2.1, t.2.2.2.1, t.2.2.2.2.1, t.2.2.2.2.2.1, t.2.2.2.2.2.2.1, true) else if w.toList = [111, 110, 101] then some (t.1, t.2.1, t.2.2.1, t.2.2.2.1, t.2.2.2.2.1, t.2.2.2.2.2.1, t.2.2.2.2.2.2.1, false) else none := by kernel_rfl
    have h' : some (if p7 then (⟨#[98, 111, 116, 104]⟩ : ByteArray) else ⟨#[111, 110, 101]⟩) = some w := h
    obtain rfl := Option.some.inj h'
    rw [eF]
    cases p7
    · rw [if_neg (by decide +kernel), if_pos (by decide +kernel)]
      rfl
    · rw [if_pos (by decide +kernel)]
      rfl
theorem read_words (p : T8) (ho : 0 ≤ p.2.2.2.2.1 ∧ p.2.2.2.2.1 < 18446744073709551616) : ∀ (xs : List Int) (ws : List ByteArray) (t : T8), (∀ x ∈ xs, codeOk x) → xs.map (showT p) = ws.map some → readAll xs ws t = some (xs.foldl (setF p) t) := by
  intro xs
  induction xs with
  | nil => intro ws t _ _; rw [readAll]; rfl
  | cons x xs ih =>
    intro ws t hx h
    cases ws with
    | nil => simp at h
    | cons w ws =>
      rw [List.map_cons, List.map_cons] at h
      obtain ⟨h1, h2⟩ := List.cons.inj h
      rw [readAll, show_read p t x w (hx x (by simp)) ho h1, Option.bind_some]
      exact ih ws _ (fun y hy => hx y (by simp [hy])) h2
theorem dec_nospace (n : Nat) : (32 : UInt8) ∉ dec n := by
  intro h
  have := dec_digit n 32 h
  simp at this
theorem enc1_nospace (c : UInt8) : (32 : UInt8) ∉ enc1 c := by
  have key : ∀ m : Fin 256, (32 : UInt8) ∉ enc1 (UInt8.ofNat m.val) := by decide +kernel
  have := key ⟨c.toNat, c.toNat_lt⟩
  simpa using this
theorem word_nospace (l : List UInt8) : (32 : UInt8) ∉ word l := by
  unfold word
  intro h
  rcases List.mem_cons.1 h with h | h
  · exact absurd h (by decide)
  · obtain ⟨c, _, hc⟩ := List.mem_flatMap.1 h
    exact enc1_nospace c hc
theorem show_nospace (p : T8) (x : Int) (w : ByteArray) (h : showT p x = some w) : (32 : UInt8) ∉ w.data.toList := by
  have num : ∀ a, numF a = some w → (32 : UInt8) ∉ w.data.toList := by
    intro a ha
    unfold numF at ha
    split at ha
    · rw [← Option.some.inj ha]; exact dec_nospace _
    · cases ha
  unfold showT showF at h
  split at h
  · exact num _ h
  split at h
  · exact num _ h
  split at h
  · exact num _ h
  split at h
  · rw [← Option.some.inj h]; exact dec_nospace _
  split at h
  · rw [← Option.some.inj h]; exact word_nospace _
  split at h
  · rw [← Option.some.inj h]; exact word_nospace _
  · rw [← Option.some.inj h]
    split <;> decide
/-- What is printed is parsed as it was, without what its kind has not. -/
theorem parse_line (p : T8) (s : ByteArray) (hk : 1 ≤ p.1 ∧ p.1 ≤ 21) (ho : okT 300 p) (h : lineF p.1 p.2.1 p.2.2.1 p.2.2.2.1 p.2.2.2.2.1 p.2.2.2.2.2.1 p.2.2.2.2.2.2.1 p.2.2.2.2.2.2.2 = (s, 0)) : parseF s = some (cleanF p) ∧ s.size ≤ 5000 := by
  obtain ⟨z, hz, hc, hsz, hf, hcl⟩ := codesOf_eq _ hk.1 hk.2
  obtain ⟨_, hsp, hwt⟩ := table2 _ hk.1 hk.2
  obtain ⟨_, _, _, _, hwd⟩ := table _ hk.1 hk.2
  unfold lineF at h
  rw [if_pos hk, hf] at h
  obtain ⟨ws, h1, h2⟩ := print_ok p (codes z) (wd p.1) s h
  have hm : ∀ w ∈ ws, ∃ x, showT p x = some w := by
    intro w hw
    have : some w ∈ (codes z).map (showT p) := by rw [h1]; exact List.mem_map_of_mem hw
    obtain ⟨x, _, hx⟩ := List.mem_map.1 this
    exact ⟨x, hx⟩
  have hlen : (codes z).length = ws.length := by
    have := congrArg List.length h1
    simpa using this
  have hw : wordsOf s = wd p.1 :: ws := by
    unfold wordsOf
    rw [h2, join_list, split_words 32 _ _ hsp]
    · rw [List.map_cons, List.map_map]
      have e1 : mkB (wd p.1).data.toList = wd p.1 := ext_list rfl
      have e2 : ws.map (mkB ∘ fun w : ByteArray => w.data.toList) = ws := by
        conv => rhs; rw [← List.map_id ws]
        exact List.map_congr_left fun w _ => ext_list rfl
      rw [e1, e2]
    · intro q hq
      obtain ⟨w, hw, rfl⟩ := List.mem_map.1 hq
      obtain ⟨x, hx⟩ := hm w hw
      exact show_nospace p x w hx
  have hkind : kindOf s = p.1 := by
    unfold kindOf
    rw [hw]
    exact hwt
  constructor
  · unfold parseF
    rw [hkind, if_neg (by omega), if_pos (by rw [hc, hw, List.length_cons, hlen]), hc, hw]
    show readAll (codes z) ws (zero8 p.1) = _
    rw [read_words p ⟨ho.1, ho.2.1⟩ (codes z) ws _ (codes_ok z) h1]
    unfold cleanF
    rw [hc]
  · have := join_size ws (wd p.1) 901 (by
      intro w hw
      obtain ⟨x, hx⟩ := hm w hw
      exact show_size _ _ _ _ _ _ _ _ ho.1 ho.2.1 ho.2.2.1 ho.2.2.2 x w hx)
    rw [← h2] at this
    have : (901 + 1) * ws.length ≤ 902 * 5 := Nat.mul_le_mul_left _ (by omega)
    omega
theorem clean_ref (a b c d e : Int) (f g : ByteArray) (h : Bool) (k : Nat) (hk : 10 ≤ k) (hr : 1 ≤ a ∧ a ≤ 21) : gharryref25_Clean.f k a b c d e f g h = some (cleanF (a, b, c, d, e, f, g, h)) := by
  have base : gharryref25_Clean.f 10 a b c d e f g h = some (cleanF (a, b, c, d, e, f, g, h)) := by
    rcases known_cases a with (rfl | rfl | rfl | rfl | rfl | rfl | rfl | rfl | rfl | rfl | rfl | rfl | rfl | rfl | rfl | rfl | rfl | rfl | rfl | rfl | rfl) | ho
    iterate 21 kernel_rfl
    omega
  obtain ⟨n, rfl⟩ : ∃ n, k = 10 + n := ⟨k - 10, by omega⟩
  clear hk
  induction n with
  | zero => exact base
  | succ n ih => exact gharryref25_Clean.mono _ _ _ _ _ _ _ _ _ _ ih
end Go.Proofs.YtflbkgpmepfhlaaDoor.SayPure
namespace Go.Proofs.YtflbkgpmepfhlaaDoor.Open
open Go.RowKit Go.Deep Go.WideShapes Go.Proofs.YtflbkgpmepfhlaaDoorW.PrintWords Go.Proofs.YtflbkgpmepfhlaaDoorW.PrintLast Go.Proofs.YtflbkgpmepfhlaaDoor.HSay
set_option linter.unusedVariables false
variable {H : Type} {enc : TypeId × Value → H} {W : World}
/-- A row of steps. -/
theorem open_acts {base : Nat} {v : Value} {d : DataW H} {ps : List MemPlace} (hv : Value.okWide Tryd.prog W .any base 38 v) (h : DataW.Trod enc Tryd.prog W 0 (fun _ => true) true 38 v d ps) :
    ∃ (A : Option Addr) (c : Nat) (l : List S32), v = .slice A l.length c ∧ l.length ≤ c ∧ Kd.C k32 W A l.length l ∧ ∀ x ∈ l, okA x := by
  obtain ⟨a, n, k, rfl⟩ := okWide_slice Tryd.underlying38 hv
  obtain ⟨l, hk, hok⟩ := opens_at (opens_slice Tryd.underlying38 (by kernel_rfl) opens_act) h
  obtain ⟨A, c, he, hl, hC⟩ := hk
  exact ⟨A, c, l, by simpa [Value.cells] using he, hl, hC, hok.2⟩
end Go.Proofs.YtflbkgpmepfhlaaDoor.Open
namespace Go.Proofs.YtflbkgpmepfhlaaDoor.SayPure
open Go.RowKit Go.Proofs.YtflbkgpmepfhlaaDoor.HSay Go.Proofs.YtflbkgpmepfhlaaDoor.Hook Go.Proofs.YtflbkgpmepfhlaaDoorW.PrintWords
set_option linter.unusedVariables false
/-- A step with its key and its value cut. -/
def fw (x : S32) : S32 := ⟨x.f0, x.f1, x.f2, x.f3, x.f4, cutB x.f5, cutB x.f6, x.f7⟩
def toT (x : S32) : T8 := (x.f0, x.f1, x.f2, x.f3, x.f4, x.f5, x.f6, x.f7)
def lineS (x : S32) : ByteArray × Int := lineF x.f0 x.f1 x.f2 x.f3 x.f4 x.f5 x.f6 x.f7
def okS (x : S32) : Prop := 0 ≤ x.f4 ∧ x.f4 < 18446744073709551616
theorem rd_step (l : List S32) (i : Nat) (hi : i < l.length) : rd_T32 l (i : Int) = l[i] := by
  unfold rd_T32
  rw [Int.toNat_natCast, List.getD_eq_getElem?_getD, List.getElem?_eq_getElem hi]
  rfl
theorem printF_none (a b c d e : Int) (f g : ByteArray) (h : Bool) : ∀ (xs : List Int) (acc : ByteArray), (printF a b c d e f g h xs acc).2 ≠ 0 → (printF a b c d e f g h xs acc).1 = ⟨#[]⟩ := by
  intro xs
  induction xs with
  | nil => intro acc hn; exact absurd rfl hn
  | cons x xs ih =>
    intro acc hn
    rw [printF] at hn ⊢
    split at hn
    · exact ih _ hn
    · rfl
theorem line_none (x : S32) (hn : (lineS x).2 ≠ 0) : (lineS x).1 = ⟨#[]⟩ := by
  unfold lineS lineF at hn ⊢
  split at hn
  · rename_i hr
    rw [if_pos hr]
    exact printF_none _ _ _ _ _ _ _ _ _ _ hn
  · rename_i hr
    rw [if_neg hr]
theorem enc1_nobreak (c : UInt8) : (10 : UInt8) ∉ enc1 c := by
  have key : ∀ m : Fin 256, (10 : UInt8) ∉ enc1 (UInt8.ofNat m.val) := by decide +kernel
  have := key ⟨c.toNat, c.toNat_lt⟩
  simpa using this
theorem word_nobreak (l : List UInt8) : (10 : UInt8) ∉ word l := by
  unfold word
  intro h
  rcases List.mem_cons.1 h with h | h
  · exact absurd h (by decide)
  · obtain ⟨c, _, hc⟩ := List.mem_flatMap.1 h
    exact enc1_nobreak c hc
theorem dec_nobreak (n : Nat) : (10 : UInt8) ∉ dec n := by
  intro h
  have := dec_digit n 10 h
  simp at this
theorem show_nobreak (p : T8) (x : Int) (w : ByteArray) (h : showT p x = some w) : (10 : UInt8) ∉ w.data.toList := by
  have num : ∀ a, numF a = some w → (10 : UInt8) ∉ w.data.toList := by
    intro a ha
    unfold numF at ha
    split at ha
    · rw [← Option.some.inj ha]; exact dec_nobreak _
    · cases ha
  unfold showT showF at h
  split at h
  · exact num _ h
  split at h
  · exact num _ h
  split at h
  · exact num _ h
  split at h
  · rw [← Option.some.inj h]; exact dec_nobreak _
  split at h
  · rw [← Option.some.inj h]; exact word_nobreak _
  split at h
  · rw [← Option.some.inj h]; exact word_nobreak _
  · rw [← Option.some.inj h]
    split <;> decide
theorem wd_nobreak (j : Int) (h1 : 1 ≤ j) (h2 : j ≤ 21) : (10 : UInt8) ∉ (wd j).data.toList := by
  have key : ∀ m : Fin 22, 1 ≤ m.val → (10 : UInt8) ∉ (wd (m.val : Int)).data.toList := by decide +kernel
  have := key ⟨j.toNat, by omega⟩ (by show 1 ≤ j.toNat; omega)
  rw [show ((j.toNat : Nat) : Int) = j from by omega] at this
  exact this
/-- A step that has a line: the kind is one, the line reads back, it is short, and it is one line. -/
theorem line_some (x : S32) (ho : okS x) (hf : x.f5.size ≤ 300) (hg : x.f6.size ≤ 300) (h0 : (lineS x).2 = 0) :
    (1 ≤ x.f0 ∧ x.f0 ≤ 21) ∧ parseF (lineS x).1 = some (cleanF (toT x)) ∧ (lineS x).1.size ≤ 5000 ∧ (10 : UInt8) ∉ (lineS x).1.data.toList := by
  have hr : 1 ≤ x.f0 ∧ x.f0 ≤ 21 := by
    unfold lineS lineF at h0
    by_cases hr : 1 ≤ x.f0 ∧ x.f0 ≤ 21
    · exact hr
    · rw [if_neg hr] at h0
      exact absurd h0 (by decide)
  have hl : lineF x.f0 x.f1 x.f2 x.f3 x.f4 x.f5 x.f6 x.f7 = ((lineS x).1, 0) := by
    have : lineS x = ((lineS x).1, (lineS x).2) := rfl
    rw [h0] at this
    exact this
  obtain ⟨hp, hs⟩ := parse_line (toT x) (lineS x).1 hr ⟨ho.1, ho.2, hf, hg⟩ hl
  refine ⟨hr, hp, hs, ?_⟩
  unfold lineF at hl
  rw [if_pos hr] at hl
  obtain ⟨ws, h1, h2⟩ := print_ok (toT x) _ (wd x.f0) (lineS x).1 hl
  rw [h2, join_list]
  intro hm
  rcases List.mem_append.1 hm with hm | hm
  · exact wd_nobreak _ hr.1 hr.2 hm
  · obtain ⟨q, hq, hc⟩ := List.mem_flatMap.1 hm
    obtain ⟨w, hw, rfl⟩ := List.mem_map.1 hq
    rcases List.mem_cons.1 hc with hc | hc
    · exact absurd hc (by decide)
    · have : some w ∈ ws.map some := List.mem_map_of_mem hw
      rw [← h1] at this
      obtain ⟨y, _, hy⟩ := List.mem_map.1 this
      exact show_nobreak _ _ _ hy hc
/-- The text that the law wants, and what the first step without a line is told. -/
def wantS : List S32 → ByteArray → ByteArray × Int
  | [], acc => (acc, 0)
  | x :: l, acc => if (lineS (fw x)).2 = 0 then wantS l ((acc ++ (lineS (fw x)).1) ++ ⟨#[10]⟩) else ((acc ++ (lineS (fw x)).1) ++ ⟨#[10]⟩, (lineS (fw x)).2)
theorem fw_sizes (x : S32) : (fw x).f5.size ≤ 300 ∧ (fw x).f6.size ≤ 300 := ⟨cut_size _, cut_size _⟩
theorem line_size (x : S32) (ho : okS x) : (lineS (fw x)).1.size ≤ 5000 := by
  by_cases h0 : (lineS (fw x)).2 = 0
  · exact (line_some (fw x) ho (fw_sizes x).1 (fw_sizes x).2 h0).2.2.1
  · rw [line_none _ h0]; decide
theorem one_size : (⟨#[10]⟩ : ByteArray).size = 1 := rfl
theorem all_f : ∀ (l : List S32) (acc : ByteArray), (∀ x ∈ l, okS x) → acc.size + 5001 * l.length ≤ 1000000 →
    allF (l.map fw) acc = if (wantS l acc).2 = 0 then some ((wantS l acc).1, 0) else some (⟨#[]⟩, (wantS l acc).2) := by
  intro l
  induction l with
  | nil => intro acc _ _; rfl
  | cons x l ih =>
    intro acc ho hs
    have hx := ho x (by simp)
    have hsz := line_size x hx
    rw [List.length_cons] at hs
    have hp := (print_both (fw x).f0 (fw x).f1 (fw x).f2 (fw x).f3 (fw x).f4 (fw x).f5 (fw x).f6 (fw x).f7 hx.1 hx.2 (fw_sizes x).1 (fw_sizes x).2 10 (by omega)).1
    have hp' : say_Print.f 10 (fw x).f0 (fw x).f1 (fw x).f2 (fw x).f3 (fw x).f4 (fw x).f5 (fw x).f6 (fw x).f7 = some (lineS (fw x)) := hp
    rw [List.map_cons, allF, hp', Option.bind_some, wantS]
    by_cases h0 : (lineS (fw x)).2 = 0
    · rw [if_pos h0, if_pos h0, if_pos (by omega), ← append_assoc']
      exact ih _ (fun y hy => ho y (by simp [hy])) (by rw [size_join, size_join, one_size]; omega)
    · rw [if_neg h0, if_neg h0, if_neg h0]
/-- What is behind the law's loops. -/
def endS (k : Nat) (x3 : ByteArray) (x4 : Int) (x8 : List S32) : Option Bool :=
  (say_PrintAll.f x8).bind fun bt187 => (if x4 = 0 then ((say_Script.f k bt187.1).bind fun bt190 => (if bt187.1.toList = x3.toList then (if bt187.2 = 0 then (if bt190.2.2 = 0 then (gharrylaw25_SayAlls.j3 k x8 bt190.1 ((bt190.1.length : Int) != (x8.length : Int))) else (gharrylaw25_SayAlls.j3 k x8 bt190.1 true)) else (gharrylaw25_SayAlls.j3 k x8 bt190.1 true)) else (gharrylaw25_SayAlls.j3 k x8 bt190.1 true))) else (if bt187.1.toList = ([] : List UInt8) then (if bt187.2 = x4 then ((gharrylaw25_awake.f).bind fun t189 => (some t189)) else (some false)) else (some false)))
theorem make_loop (l : List S32) (hl : l.length ≤ 20) (want : ByteArray) (e : Int) : ∀ (n K i : Nat), i + n = l.length →
    gharrylaw25_SayAlls.l1 (n + K + 1) l want e ((l.take i).map fw) (i : Int) = endS K want e (l.map fw) := by
  intro n
  induction n with
  | zero =>
    intro K i hi
    rw [show 0 + K + 1 = K + 1 from by omega, gharrylaw25_SayAlls.l1, if_neg (by omega), List.take_of_length_le (by omega)]
    rfl
  | succ n ih =>
    intro K i hi
    have hil : i < l.length := by omega
    rw [show n + 1 + K + 1 = (n + K + 1) + 1 from by omega, gharrylaw25_SayAlls.l1, if_pos (by omega), if_pos (by omega), rd_step l i hil, few_f, Option.bind_some, if_pos (by simp; omega), wrap64_of _ (by omega) (by omega)]
    have := ih K (i + 1) (by omega)
    rw [show ((i + 1 : Nat) : Int) = (i : Int) + 1 from by omega, List.take_succ_eq_append_getElem hil, List.map_append] at this
    exact this
theorem alls_up (l : List S32) (want : ByteArray) (e : Int) (m : List S32) (i : Int) (k : Nat) (h : gharrylaw25_SayAlls.l1 k l want e m i = some true) : ∀ d, gharrylaw25_SayAlls.l1 (k + d) l want e m i = some true
  | 0 => h
  | d + 1 => (gharrylaw25_SayAlls.mono_l (k + d)).2.2.1 _ _ _ _ _ _ (alls_up l want e m i k h d)
theorem want_loop (l : List S32) (ho : ∀ x ∈ l, okS x) (hl : l.length ≤ 20) (K : Nat) (hK : 10 ≤ K) (W : ByteArray × Int) (hW : gharrylaw25_SayAlls.l1 K l W.1 W.2 [] 0 = some true) :
    ∀ (n i : Nat) (acc : ByteArray), i + n = l.length → acc.size + 5001 * n ≤ 1000000 → wantS (l.drop i) acc = W → gharrylaw25_SayAlls.l0 (K + 2 * n + 2) l acc 0 (i : Int) = some true := by
  intro n
  induction n with
  | zero =>
    intro i acc hi ha hw
    rw [List.drop_eq_nil_of_le (by omega)] at hw
    subst hw
    rw [show K + 2 * 0 + 2 = (K + 1) + 1 from by omega, gharrylaw25_SayAlls.l0, if_neg (by omega), gharrylaw25_SayAlls.j1, if_neg (by simp)]
    exact hW
  | succ n ih =>
    intro i acc hi ha hw
    have hil : i < l.length := by omega
    have hx := ho l[i] (List.getElem_mem hil)
    have hsz := line_size l[i] hx
    have hp : gharryref25_Print.f (K + 2 * n + 2) (fw l[i]).f0 (fw l[i]).f1 (fw l[i]).f2 (fw l[i]).f3 (fw l[i]).f4 (fw l[i]).f5 (fw l[i]).f6 (fw l[i]).f7 = some (lineS (fw l[i])) :=
      (print_both (fw l[i]).f0 (fw l[i]).f1 (fw l[i]).f2 (fw l[i]).f3 (fw l[i]).f4 (fw l[i]).f5 (fw l[i]).f6 (fw l[i]).f7 hx.1 hx.2 (fw_sizes l[i]).1 (fw_sizes l[i]).2 (K + 2 * n + 2) (by omega)).2
    rw [List.drop_eq_getElem_cons hil, wantS] at hw
    rw [show K + 2 * (n + 1) + 2 = ((K + 2 * n + 2) + 1) + 1 from by omega, gharrylaw25_SayAlls.l0, if_pos (by omega), gharrylaw25_SayAlls.j1, if_pos (by rfl), if_pos (by omega), if_pos (by omega), rd_step l i hil, few_f, Option.bind_some]
    show (gharryref25_Print.f (K + 2 * n + 2) (fw l[i]).f0 (fw l[i]).f1 (fw l[i]).f2 (fw l[i]).f3 (fw l[i]).f4 (fw l[i]).f5 (fw l[i]).f6 (fw l[i]).f7).bind _ = _
    rw [hp, Option.bind_some, if_pos (by omega), if_pos (by rw [size_join]; omega), wrap64_of _ (by omega) (by omega)]
    by_cases h0 : (lineS (fw l[i])).2 = 0
    · rw [if_pos h0] at hw
      rw [h0]
      have := ih (i + 1) _ (by omega) (by rw [size_join, size_join, one_size]; omega) hw
      rw [show ((i + 1 : Nat) : Int) = (i : Int) + 1 from by omega] at this
      exact this
    · rw [if_neg h0] at hw
      subst hw
      have he : ((lineS (fw l[i])).2 == 0) = false := by simpa using h0
      rw [show K + 2 * n + 2 = ((K + 2 * n) + 1) + 1 from by omega, gharrylaw25_SayAlls.l0]
      have up := alls_up l _ _ _ _ K hW (2 * n)
      have hj : ∀ b : Bool, b = false → gharrylaw25_SayAlls.j1 (K + 2 * n + 1) l ((acc ++ (lineS (fw l[i])).1) ++ ⟨#[10]⟩) (lineS (fw l[i])).2 ((i : Int) + 1) b = some true := by
        intro b hb
        rw [gharrylaw25_SayAlls.j1, hb, if_neg (by simp)]
        exact up
      split
      · exact hj _ he
      · exact hj _ rfl
/-- The lines that were printed. -/
def linesS (l : List S32) : List (List UInt8) := l.map fun x => (lineS (fw x)).1.data.toList
def textS (l : List S32) : List UInt8 := (linesS l).flatMap fun p => p ++ [10]
theorem want_text : ∀ (l : List S32) (acc : ByteArray), (wantS l acc).2 = 0 → (wantS l acc).1.data.toList = acc.data.toList ++ textS l ∧ ∀ x ∈ l, (lineS (fw x)).2 = 0 := by
  intro l
  induction l with
  | nil => intro acc _; exact ⟨by simp [wantS, textS, linesS], by simp⟩
  | cons x l ih =>
    intro acc h
    rw [wantS] at h ⊢
    split at h
    · rename_i h0
      rw [if_pos h0]
      obtain ⟨h1, h2⟩ := ih _ h
      refine ⟨?_, fun y hy => ?_⟩
      · rw [h1, append_list, append_list]
        show _ = acc.data.toList ++ ((linesS (x :: l)).flatMap fun p => p ++ [10])
        rw [show linesS (x :: l) = (lineS (fw x)).1.data.toList :: linesS l from rfl, List.flatMap_cons]
        show _ ++ [10] ++ _ = _
        simp only [List.append_assoc]
        rfl
      · rcases List.mem_cons.1 hy with rfl | hy
        · exact h0
        · exact h2 y hy
    · rename_i h0
      exact absurd h h0
theorem text_lines : ∀ (l : List S32), (∀ x ∈ l, (10 : UInt8) ∉ (lineS (fw x)).1.data.toList) → linesT (textS l) = linesS l := by
  intro l
  induction l with
  | nil => intro _; rfl
  | cons x l ih =>
    intro h
    have e : textS (x :: l) = (lineS (fw x)).1.data.toList ++ 10 :: textS l := by
      show ((linesS (x :: l)).flatMap fun p => p ++ [10]) = _
      rw [show linesS (x :: l) = (lineS (fw x)).1.data.toList :: linesS l from rfl, List.flatMap_cons, List.append_assoc]
      rfl
    rw [e, lines_next _ _ (h x (by simp)), ih (fun y hy => h y (by simp [hy]))]
    rfl
def cleanS (x : S32) : S32 := toS (cleanF (toT (fw x)))
theorem script_lines : ∀ (l : List S32) (i : Nat) (acc : List S32), (∀ x ∈ l, parseF (lineS (fw x)).1 = some (cleanF (toT (fw x)))) → scriptF ((linesS l).map mkB) i acc = (acc ++ l.map cleanS, 0, 0) := by
  intro l
  induction l with
  | nil => intro i acc _; simp [linesS, scriptF]
  | cons x l ih =>
    intro i acc h
    have e : (linesS (x :: l)).map mkB = (lineS (fw x)).1 :: (linesS l).map mkB := by
      show mkB (lineS (fw x)).1.data.toList :: _ = _
      rw [show mkB (lineS (fw x)).1.data.toList = (lineS (fw x)).1 from ext_list rfl]
      rfl
    rw [e, scriptF, h x (by simp)]
    show scriptF ((linesS l).map mkB) (i + 1) (acc ++ [cleanS x]) = _
    rw [ih _ _ (fun y hy => h y (by simp [hy])), List.map_cons]
    simp
theorem clean_loop (l : List S32) (hl : l.length ≤ 20) (hr : ∀ x ∈ l, 1 ≤ x.f0 ∧ x.f0 ≤ 21) : ∀ (n K i : Nat), i + n = l.length → 10 ≤ K → gharrylaw25_SayAlls.l2 (n + K + 1) (l.map fw) (l.map cleanS) (i : Int) = some true := by
  intro n
  induction n with
  | zero =>
    intro K i hi hK
    rw [show 0 + K + 1 = K + 1 from by omega, gharrylaw25_SayAlls.l2, if_neg (by simp; omega), awake]
    rfl
  | succ n ih =>
    intro K i hi hK
    have hil : i < l.length := by omega
    have h1 : rd_T32 (l.map fw) (i : Int) = fw l[i] := by rw [rd_step _ _ (by simpa using hil), List.getElem_map]
    have h2 : rd_T32 (l.map cleanS) (i : Int) = cleanS l[i] := by rw [rd_step _ _ (by simpa using hil), List.getElem_map]
    have hx := hr l[i] (List.getElem_mem hil)
    have hc : gharryref25_Clean.f (n + K + 1) (fw l[i]).f0 (fw l[i]).f1 (fw l[i]).f2 (fw l[i]).f3 (fw l[i]).f4 (fw l[i]).f5 (fw l[i]).f6 (fw l[i]).f7 = some (cleanF (toT (fw l[i]))) := clean_ref _ _ _ _ _ _ _ _ _ (by omega) hx
    rw [show n + 1 + K + 1 = (n + K + 1) + 1 from by omega, gharrylaw25_SayAlls.l2, if_pos (by simp; omega), if_pos (by omega), if_pos (by simp; omega), h1, h2, hc, Option.bind_some]
    generalize hq : cleanF (toT (fw l[i])) = q
    have hs : cleanS l[i] = toS q := by unfold cleanS; rw [hq]
    rw [hs, if_neg (by simp [toS]), wrap64_of _ (by omega) (by omega)]
    have := ih K (i + 1) (by omega) hK
    rw [show ((i + 1 : Nat) : Int) = (i : Int) + 1 from by omega] at this
    exact this
theorem want_size : ∀ (l : List S32) (acc : ByteArray), (∀ x ∈ l, okS x) → (wantS l acc).1.size ≤ acc.size + 5001 * l.length := by
  intro l
  induction l with
  | nil => intro acc _; exact Nat.le_add_right _ _
  | cons x l ih =>
    intro acc h
    have hsz := line_size x (h x (by simp))
    rw [wantS, List.length_cons]
    split
    · have := ih ((acc ++ (lineS (fw x)).1) ++ ⟨#[10]⟩) (fun y hy => h y (by simp [hy]))
      rw [size_join, size_join, one_size] at this
      omega
    · rw [size_join, size_join, one_size]
      omega
theorem end_ok (l : List S32) (ho : ∀ x ∈ l, okS x) (hl : l.length ≤ 20) : endS 100 (wantS l ⟨#[]⟩).1 (wantS l ⟨#[]⟩).2 (l.map fw) = some true := by
  have he : (⟨#[]⟩ : ByteArray).size = 0 := rfl
  have hall := all_f l ⟨#[]⟩ ho (by rw [he]; omega)
  have hsz := want_size l ⟨#[]⟩ ho
  rw [he] at hsz
  unfold endS say_PrintAll.f
  rw [hall]
  by_cases h0 : (wantS l ⟨#[]⟩).2 = 0
  · obtain ⟨ht, hz⟩ := want_text l ⟨#[]⟩ h0
    have ht' : (wantS l ⟨#[]⟩).1.data.toList = textS l := ht
    have hsome : ∀ x ∈ l, _ := fun x hx => line_some (fw x) (ho x hx) (fw_sizes x).1 (fw_sizes x).2 (hz x hx)
    have hlines := text_lines l (fun x hx => (hsome x hx).2.2.2)
    have hsc := script_few (wantS l ⟨#[]⟩).1 (by omega) 20 (by rw [ht', hlines]; unfold linesS; rw [List.length_map]; exact hl) (by omega) 100 (by omega)
    rw [ht', hlines, script_lines l 0 [] (fun x hx => (hsome x hx).2.1), List.nil_append] at hsc
    rw [if_pos h0, Option.bind_some, if_pos h0]
    show (say_Script.f 100 (wantS l ⟨#[]⟩).1).bind _ = _
    rw [hsc, Option.bind_some, if_pos rfl, if_pos rfl, if_pos rfl]
    have hne : (((l.map cleanS).length : Int) != ((l.map fw).length : Int)) = false := by simp
    show gharrylaw25_SayAlls.j3 100 (l.map fw) (l.map cleanS) (((l.map cleanS).length : Int) != ((l.map fw).length : Int)) = _
    rw [hne, show (100 : Nat) = 99 + 1 from rfl, gharrylaw25_SayAlls.j3, if_neg (by simp)]
    have := clean_loop l hl (fun x hx => (hsome x hx).1) l.length (98 - l.length) 0 (by omega) (by omega)
    rw [show l.length + (98 - l.length) + 1 = 99 from by omega] at this
    exact this
  · rw [if_neg h0, Option.bind_some, if_neg h0, if_pos (by rw [bytes_toList]), if_pos rfl, awake]
    rfl
theorem SayAlls (l : List S32) (ho : ∀ x ∈ l, okS x) (hl : l.length ≤ 20) : gharrylaw25_SayAlls.f (100 + l.length + 1 + 2 * l.length + 2) l = some true := by
  have he : (⟨#[]⟩ : ByteArray).size = 0 := rfl
  have h1 := make_loop l hl (wantS l ⟨#[]⟩).1 (wantS l ⟨#[]⟩).2 l.length 100 0 (by omega)
  rw [end_ok l ho hl] at h1
  have := want_loop l ho hl (l.length + 100 + 1) (by omega) (wantS l ⟨#[]⟩) h1 l.length 0 ⟨#[]⟩ (by omega) (by rw [he]; omega) rfl
  unfold gharrylaw25_SayAlls.f
  rw [show 100 + l.length + 1 + 2 * l.length + 2 = l.length + 100 + 1 + 2 * l.length + 2 from by omega]
  exact this
end Go.Proofs.YtflbkgpmepfhlaaDoor.SayPure
namespace Go.Proofs.YtflbkgpmepfhlaaDoor.SayPure
open Go.RowKit Go.Proofs.YtflbkgpmepfhlaaDoor.HSay Go.Proofs.YtflbkgpmepfhlaaDoor.Hook Go.Proofs.YtflbkgpmepfhlaaDoorW.PrintWords
theorem SayAllsWalk (A : Option Addr) (n : Nat) (l : List S32) (w : World) (hC : Kd.C k32 w A l.length l) (hc : l.length ≤ n) (ok : ∀ x ∈ l, Open.okA x) :
    Calls Tryd.prog 10 #[.slice A l.length n] w fun e w' => e = .returned (.bool true) ∧ Below w.heap.size w w' := by
  by_cases hl : l.length ≤ 20
  · exact gharrylaw25_SayAlls.short _ A n l true w hC hc hl (SayAlls l (fun x hx => (ok x hx).1) hl)
  · exact gharrylaw25_SayAlls.long _ A n l true w hC hc (by omega) (SayAlls (l.take 20) (fun x hx => (ok x (List.mem_of_mem_take hx)).1) (by rw [List.length_take]; omega))
end Go.Proofs.YtflbkgpmepfhlaaDoor.SayPure
