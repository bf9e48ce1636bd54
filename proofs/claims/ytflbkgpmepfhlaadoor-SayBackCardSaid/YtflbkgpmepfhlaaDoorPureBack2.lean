/- The plain law of SayBack: what is printed is parsed as it was, without what its kind has not. -/
import Derived.Test.YtflbkgpmepfhlaaDoorPureBack
import Derived.Test.YtflbkgpmepfhlaaDoorFsayClean
import Derived.Test.YtflbkgpmepfhlaaDoorFgharryref25Clean
import Derived.Test.YtflbkgpmepfhlaaDoorFgharrylaw25SayBack
namespace Go.Proofs.YtflbkgpmepfhlaaDoor.SayPure
open Go.RowKit Go.Proofs.YtflbkgpmepfhlaaDoor.HSay Go.Proofs.YtflbkgpmepfhlaaDoor.Hook Go.Proofs.YtflbkgpmepfhlaaDoorW.PrintWords
set_option linter.unusedVariables false
/-- One field of p, put into t. -/
def setF (p t : T8) (x : Int) : T8 :=
  if x = 1 then (t.1, t.2.1, p.2.2.1, t.2.2.2) else if x = 2 then (t.1, p.2.1, t.2.2) else if x = 3 then (t.1, t.2.1, t.2.2.1, p.2.2.2.1, t.2.2.2.2)
  else if x = 4 then (t.1, t.2.1, t.2.2.1, t.2.2.2.1, p.2.2.2.2.1, t.2.2.2.2.2) else if x = 5 then (t.1, t.2.1, t.2.2.1, t.2.2.2.1, t.2.2.2.2.1, p.2.2.2.2.2.1, t.2.2.2.2.2.2)
  else if x = 6 then (t.1, t.2.1, t.2.2.1, t.2.2.2.1, t.2.2.2.2.1, t.2.2.2.2.2.1, p.2.2.2.2.2.2.1, t.2.2.2.2.2.2.2) else (t.1, t.2.1, t.2.2.1, t.2.2.2.1, t.2.2.2.2.1, t.2.2.2.2.2.1, t.2.2.2.2.2.2.1, p.2.2.2.2.2.2.2)
def cleanF (p : T8) : T8 := (codesOf p.1).foldl (setF p) (zero8 p.1)
theorem count_of_num (a : Int) (w : ByteArray) (h : numF a = some w) : countF w.data.toList 1073741824 = (a, true) := by
  unfold numF at h
  split at h
  · rename_i hr
    obtain rfl := Option.some.inj h
    exact count_dec a 1073741824 hr.1 (by omega) hr.2
  · cases h
theorem show_read (p t : T8) (x : Int) (w : ByteArray) (hx : codeOk x) (ho : 0 ≤ p.2.2.2.2.1 ∧ p.2.2.2.2.1 < 18446744073709551616) (h : showT p x = some w) : readF t x w = some (setF p t x) := by
  obtain ⟨p0, p1, p2, p3, p4, p5, p6, p7⟩ := p
  rcases codes7 hx with rfl | rfl | rfl | rfl | rfl | rfl | rfl
  · have eF : readF t 1 w = (if (countF w.data.toList 1073741824).2 = true then some (t.1, t.2.1, (countF w.data.toList 1073741824).1, t.2.2.2) else none) := by kernel_rfl
    have h' : numF p2 = some w := h
    rw [eF, count_of_num _ _ h', if_pos rfl]
    rfl
  · have eF : readF t 2 w = (if (countF w.data.toList 1073741824).2 = true then some (t.1, (countF w.data.toList 1073741824).1, t.2.2) else none) := by kernel_rfl
    have h' : numF p1 = some w := h
    rw [eF, count_of_num _ _ h', if_pos rfl]
    rfl
  · have eF : readF t 3 w = (if (countF w.data.toList 1073741824).2 = true then some (t.1, t.2.1, t.2.2.1, (countF w.data.toList 1073741824).1, t.2.2.2.2) else none) := by kernel_rfl
    have h' : numF p3 = some w := h
    rw [eF, count_of_num _ _ h', if_pos rfl]
    rfl
  · have eF : readF t 4 w = (if (countF w.data.toList 18446744073709551615).2 = true then some (t.1, t.2.1, t.2.2.1, t.2.2.2.1, (countF w.data.toList 18446744073709551615).1, t.2.2.2.2.2) else none) := by kernel_rfl
    have h' : some (decB p4) = some w := h
    obtain rfl := Option.some.inj h'
    have hc : countF (decB p4).data.toList 18446744073709551615 = (p4, true) := count_dec p4 _ ho.1 ho.2 (by have := ho.2; simp only at this; omega)
    rw [eF, hc, if_pos rfl]
    rfl
  · have eF : readF t 5 w = (text w.data.toList).map fun s => (t.1, t.2.1, t.2.2.1, t.2.2.2.1, t.2.2.2.2.1, ⟨s.toArray⟩, t.2.2.2.2.2.2) := by kernel_rfl
    have h' : some (mkW p5) = some w := h
    obtain rfl := Option.some.inj h'
    rw [eF, mkW_list, text_word, Option.map_some]
    have : (⟨p5.data.toList.toArray⟩ : ByteArray) = p5 := by cases p5; simp
    rw [this]
    rfl
  · have eF : readF t 6 w = (text w.data.toList).map fun s => (t.1, t.2.1, t.2.2.1, t.2.2.2.1, t.2.2.2.2.1, t.2.2.2.2.2.1, ⟨s.toArray⟩, t.2.2.2.2.2.2.2) := by kernel_rfl
    have h' : some (mkW p6) = some w := h
    obtain rfl := Option.some.inj h'
    rw [eF, mkW_list, text_word, Option.map_some]
    have : (⟨p6.data.toList.toArray⟩ : ByteArray) = p6 := by cases p6; simp
    rw [this]
    rfl
  · have eF : readF t 7 w = if w.toList = [98, 111, 116, 104] then some (t.1, t.2.1, t.2.2.1, t.2.2.2.1, t.2.2.2.2.1, t.2.2.2.2.2.1, t.2.2.2.2.2.2.1, true) else if w.toList = [111, 110, 101] then some (t.1, t.2.1, t.2.2.1, t.2.2.2.1, t.2.2.2.2.1, t.2.2.2.2.2.1, t.2.2.2.2.2.2.1, false) else none := by kernel_rfl
    have h' : some (if p7 then (⟨#[98, 111, 116, 104]⟩ : ByteArray) else ⟨#[111, 110, 101]⟩) = some w := h
    obtain rfl := Option.some.inj h'
    rw [eF]
    cases p7
    · rw [if_neg (by decide +kernel), if_pos (by decide +kernel)]
      rfl
    · rw [if_pos (by decide +kernel)]
      rfl
theorem read_words (p : T8) (ho : 0 ≤ p.2.2.2.2.1 ∧ p.2.2.2.2.1 < 18446744073709551616) : ∀ (xs : List Int) (ws : List ByteArray) (t : T8), (∀ x ∈ xs, codeOk x) → xs.map (showT p) = ws.map some → readAll xs ws t = some (xs.foldl (setF p) t) := by
  intro xs
  induction xs with
  | nil => intro ws t _ _; rw [readAll]; rfl
  | cons x xs ih =>
    intro ws t hx h
    cases ws with
    | nil => simp at h
    | cons w ws =>
      rw [List.map_cons, List.map_cons] at h
      obtain ⟨h1, h2⟩ := List.cons.inj h
      rw [readAll, show_read p t x w (hx x (by simp)) ho h1, Option.bind_some]
      exact ih ws _ (fun y hy => hx y (by simp [hy])) h2
theorem dec_nospace (n : Nat) : (32 : UInt8) ∉ dec n := by
  intro h
  have := dec_digit n 32 h
  simp at this
theorem enc1_nospace (c : UInt8) : (32 : UInt8) ∉ enc1 c := by
  have key : ∀ m : Fin 256, (32 : UInt8) ∉ enc1 (UInt8.ofNat m.val) := by decide +kernel
  have := key ⟨c.toNat, c.toNat_lt⟩
  simpa using this
theorem word_nospace (l : List UInt8) : (32 : UInt8) ∉ word l := by
  unfold word
  intro h
  rcases List.mem_cons.1 h with h | h
  · exact absurd h (by decide)
  · obtain ⟨c, _, hc⟩ := List.mem_flatMap.1 h
    exact enc1_nospace c hc
theorem show_nospace (p : T8) (x : Int) (w : ByteArray) (h : showT p x = some w) : (32 : UInt8) ∉ w.data.toList := by
  have num : ∀ a, numF a = some w → (32 : UInt8) ∉ w.data.toList := by
    intro a ha
    unfold numF at ha
    split at ha
    · rw [← Option.some.inj ha]; exact dec_nospace _
    · cases ha
  unfold showT showF at h
  split at h
  · exact num _ h
  split at h
  · exact num _ h
  split at h
  · exact num _ h
  split at h
  · rw [← Option.some.inj h]; exact dec_nospace _
  split at h
  · rw [← Option.some.inj h]; exact word_nospace _
  split at h
  · rw [← Option.some.inj h]; exact word_nospace _
  · rw [← Option.some.inj h]
    split <;> decide
/-- What is printed is parsed as it was, without what its kind has not. -/
theorem parse_line (p : T8) (s : ByteArray) (hk : 1 ≤ p.1 ∧ p.1 ≤ 21) (ho : okT 300 p) (h : lineF p.1 p.2.1 p.2.2.1 p.2.2.2.1 p.2.2.2.2.1 p.2.2.2.2.2.1 p.2.2.2.2.2.2.1 p.2.2.2.2.2.2.2 = (s, 0)) : parseF s = some (cleanF p) ∧ s.size ≤ 5000 := by
  obtain ⟨z, hz, hc, hsz, hf, hcl⟩ := codesOf_eq _ hk.1 hk.2
  obtain ⟨_, hsp, hwt⟩ := table2 _ hk.1 hk.2
  obtain ⟨_, _, _, _, hwd⟩ := table _ hk.1 hk.2
  unfold lineF at h
  rw [if_pos hk, hf] at h
  obtain ⟨ws, h1, h2⟩ := print_ok p (codes z) (wd p.1) s h
  have hm : ∀ w ∈ ws, ∃ x, showT p x = some w := by
    intro w hw
    have : some w ∈ (codes z).map (showT p) := by rw [h1]; exact List.mem_map_of_mem hw
    obtain ⟨x, _, hx⟩ := List.mem_map.1 this
    exact ⟨x, hx⟩
  have hlen : (codes z).length = ws.length := by
    have := congrArg List.length h1
    simpa using this
  have hw : wordsOf s = wd p.1 :: ws := by
    unfold wordsOf
    rw [h2, join_list, split_words 32 _ _ hsp]
    · rw [List.map_cons, List.map_map]
      have e1 : mkB (wd p.1).data.toList = wd p.1 := ext_list rfl
      have e2 : ws.map (mkB ∘ fun w : ByteArray => w.data.toList) = ws := by
        conv => rhs; rw [← List.map_id ws]
        exact List.map_congr_left fun w _ => ext_list rfl
      rw [e1, e2]
    · intro q hq
      obtain ⟨w, hw, rfl⟩ := List.mem_map.1 hq
      obtain ⟨x, hx⟩ := hm w hw
      exact show_nospace p x w hx
  have hkind : kindOf s = p.1 := by
    unfold kindOf
    rw [hw]
    exact hwt
  constructor
  · unfold parseF
    rw [hkind, if_neg (by omega), if_pos (by rw [hc, hw, List.length_cons, hlen]), hc, hw]
    show readAll (codes z) ws (zero8 p.1) = _
    rw [read_words p ⟨ho.1, ho.2.1⟩ (codes z) ws _ (codes_ok z) h1]
    unfold cleanF
    rw [hc]
  · have := join_size ws (wd p.1) 901 (by
      intro w hw
      obtain ⟨x, hx⟩ := hm w hw
      exact show_size _ _ _ _ _ _ _ _ ho.1 ho.2.1 ho.2.2.1 ho.2.2.2 x w hx)
    rw [← h2] at this
    have : (901 + 1) * ws.length ≤ 902 * 5 := Nat.mul_le_mul_left _ (by omega)
    omega
theorem clean_ref (a b c d e : Int) (f g : ByteArray) (h : Bool) (k : Nat) (hk : 10 ≤ k) (hr : 1 ≤ a ∧ a ≤ 21) : gharryref25_Clean.f k a b c d e f g h = some (cleanF (a, b, c, d, e, f, g, h)) := by
  have base : gharryref25_Clean.f 10 a b c d e f g h = some (cleanF (a, b, c, d, e, f, g, h)) := by
    rcases known_cases a with (rfl | rfl | rfl | rfl | rfl | rfl | rfl | rfl | rfl | rfl | rfl | rfl | rfl | rfl | rfl | rfl | rfl | rfl | rfl | rfl | rfl) | ho
    iterate 21 kernel_rfl
    omega
  obtain ⟨n, rfl⟩ : ∃ n, k = 10 + n := ⟨k - 10, by omega⟩
  clear hk
  induction n with
  | zero => exact base
  | succ n ih => exact gharryref25_Clean.mono _ _ _ _ _ _ _ _ _ _ ih
theorem SayBack (a b c d e : Int) (f g : ByteArray) (h : Bool) (he0 : 0 ≤ e) (he1 : e < 18446744073709551616) : gharrylaw25_SayBack.f 400 a b c d e f g h = some true := by
  have h1 := print_one a b c d e (cutB f) (cutB g) h he0 he1 (cut_size f) (cut_size g) 400 (by omega)
  have hf := cut_size f
  have hg := cut_size g
  unfold gharrylaw25_SayBack.f
  rw [few_f, Option.bind_some, h1, Option.bind_some]
  cases hl : lineF a b c d e (cutB f) (cutB g) h with
  | mk s er =>
    by_cases he : er = 0
    · subst he
      have hr : 1 ≤ a ∧ a ≤ 21 := by
        unfold lineF at hl
        by_cases hr : 1 ≤ a ∧ a ≤ 21
        · exact hr
        · rw [if_neg hr] at hl
          exact absurd (Prod.mk.inj hl).2 (by decide)
      obtain ⟨hp, hsz⟩ := parse_line (a, b, c, d, e, cutB f, cutB g, h) s hr ⟨he0, he1, hf, hg⟩ hl
      have hps := say_parse s (by omega)
      rw [hp] at hps
      have hc := clean_ref a b c d e (cutB f) (cutB g) h 400 (by omega) hr
      generalize cleanF (a, b, c, d, e, cutB f, cutB g, h) = q at *
      have hsay : say_Parse.f s = some (q.1, q.2.1, q.2.2.1, q.2.2.2.1, q.2.2.2.2.1, q.2.2.2.2.2.1, q.2.2.2.2.2.2.1, q.2.2.2.2.2.2.2, 0) := by unfold say_Parse.f; rw [hps]; rfl
      rw [if_pos rfl, hsay, Option.bind_some, if_pos rfl, hc, Option.bind_some, if_pos (by simp), awake]
      rfl
    · rw [if_neg he, awake]
      rfl
end Go.Proofs.YtflbkgpmepfhlaaDoor.SayPure
