/- Plain laws of words: a text as a word is read again, and a word is only one text's. -/
import Derived.Test.YtflbkgpmepfhlaaDoorFtypes
import Derived.Test.YtflbkgpmepfhlaaDoorFgharrylaw25cut
import Derived.Test.YtflbkgpmepfhlaaDoorFgharrylaw25awake
namespace Go.Proofs.YtflbkgpmepfhlaaDoor.SayPure
open Go.RowKit Go.Proofs.YtflbkgpmepfhlaaDoor.HSay Go.Proofs.YtflbkgpmepfhlaaDoor.Hook Go.Proofs.YtflbkgpmepfhlaaDoorW.PrintWords
set_option linter.unusedVariables false

theorem hexv_hexd (n : Nat) (h : n < 16) : hexv (hexd n) = some n := by
  have key : ∀ m : Fin 16, hexv (hexd m.val) = some m.val := by decide +kernel
  exact key ⟨n, h⟩
theorem hexd_hexv (c : UInt8) (n : Nat) (h : hexv c = some n) : hexd n = c := by
  have key : ∀ m : Fin 256, ∀ n : Fin 16, hexv (UInt8.ofNat m.val) = some n.val → hexd n.val = UInt8.ofNat m.val := by decide +kernel
  have := key ⟨c.toNat, c.toNat_lt⟩ ⟨n, hexv_lt h⟩ (by simpa using h)
  simpa using this
theorem enc1_bare {c : UInt8} (h : bareI (c.toNat : Int) = true) : enc1 c = [c] := by unfold enc1; rw [if_pos h]
theorem enc1_other {c : UInt8} (h : ¬ bareI (c.toNat : Int) = true) : enc1 c = [37, hexd (c.toNat / 16), hexd (c.toNat % 16)] := by unfold enc1; rw [if_neg h]
theorem body_word (l : List UInt8) : body (l.flatMap enc1) = some l := by
  induction l with
  | nil => rfl
  | cons c l ih =>
    rw [List.flatMap_cons]
    by_cases hb : bareI (c.toNat : Int) = true
    · rw [enc1_bare hb, List.singleton_append, body_bare _ hb, ih]
      rfl
    · rw [enc1_other hb]
      have hc := c.toNat_lt
      show body (37 :: hexd (c.toNat / 16) :: hexd (c.toNat % 16) :: l.flatMap enc1) = _
      rw [body_hex, hexv_hexd _ (by omega), hexv_hexd _ (by omega)]
      have he : 16 * (c.toNat / 16) + c.toNat % 16 = c.toNat := by omega
      simp only [he]
      rw [if_neg hb, ih]
      simp
theorem text_word (l : List UInt8) : text (word l) = some l := by
  show (if (61 : UInt8) = 61 then body (l.flatMap enc1) else none) = some l
  rw [if_pos rfl]
  exact body_word l
theorem word_body : ∀ (n : Nat) (l t : List UInt8), l.length ≤ n → body l = some t → t.flatMap enc1 = l := by
  intro n
  induction n with
  | zero =>
    intro l t hl h
    have : l = [] := by cases l with
      | nil => rfl
      | cons a b => simp at hl
    subst this
    simp [body] at h
    subst h
    rfl
  | succ n ih =>
    intro l t hl h
    cases l with
    | nil =>
      simp [body] at h
      subst h
      rfl
    | cons c l =>
      simp only [List.length_cons] at hl
      by_cases hb : bareI (c.toNat : Int) = true
      · rw [body_bare _ hb] at h
        obtain ⟨u, hu, rfl⟩ := Option.map_eq_some_iff.1 h
        rw [List.flatMap_cons, ih l u (by omega) hu, enc1_bare hb]
        rfl
      · by_cases hc : c = 37
        · subst hc
          rcases l with _ | ⟨x, _ | ⟨y, r⟩⟩
          · rw [body_short _ (by simp)] at h; cases h
          · rw [body_short _ (by simp)] at h; cases h
          · rw [body_hex] at h
            split at h
            · rename_i a b hx hy
              split at h
              · cases h
              · rename_i hbr
                obtain ⟨u, hu, rfl⟩ := Option.map_eq_some_iff.1 h
                have ha := hexv_lt hx
                have hb' := hexv_lt hy
                simp only [List.length_cons] at hl
                rw [List.flatMap_cons, ih r u (by omega) hu]
                have hn : ((16 * a + b).toUInt8).toNat = 16 * a + b := by
                  simp only [Nat.toUInt8_eq, UInt8.toNat_ofNat']
                  omega
                rw [enc1_other (by rw [hn]; exact hbr), hn, show (16 * a + b) / 16 = a by omega, show (16 * a + b) % 16 = b by omega, hexd_hexv _ _ hx, hexd_hexv _ _ hy]
                rfl
            · cases h
        · rw [body_other _ (by simpa using hb) hc] at h
          cases h
theorem word_text (l t : List UInt8) (h : text l = some t) : word t = l := by
  unfold text at h
  split at h
  · cases h
  · rename_i c l
    split at h
    · rename_i hc
      subst hc
      unfold word
      rw [word_body _ l t (Nat.le_refl _) h]
    · cases h
theorem text_le (l t : List UInt8) (h : text l = some t) : t.length + 1 ≤ l.length := by
  unfold text at h
  split at h
  · cases h
  · rename_i c l
    split at h
    · have := body_le _ l t (Nat.le_refl _) h
      simp only [List.length_cons]; omega
    · cases h

/-- A text, or its first 300 bytes. -/
def cutB (a : ByteArray) : ByteArray := if a.size > 300 then a.extract 0 300 else a
theorem cut_f (a : ByteArray) : gharrylaw25_cut.f a = some (cutB a) := by
  unfold gharrylaw25_cut.f cutB
  by_cases h : a.size > 300
  · rw [if_pos (by omega), if_pos (by omega), if_pos (by omega), if_pos h]
  · rw [if_neg (by omega), if_neg h]
theorem cut_size (a : ByteArray) : (cutB a).size ≤ 300 := by
  unfold cutB
  split
  · rw [ByteArray.size_extract]; omega
  · omega
theorem loop_eq (a : ByteArray) : ∀ (n i : Nat) (r : List UInt8), a.size - i = n → ByteArray.toList.loop a i r = r.reverse ++ a.data.toList.drop i := by
  have hl : a.data.toList.length = a.size := Array.length_toList
  intro n
  induction n with
  | zero =>
    intro i r h
    unfold ByteArray.toList.loop
    rw [if_neg (by omega), List.drop_eq_nil_of_le (by omega)]
    simp
  | succ n ih =>
    intro i r h
    unfold ByteArray.toList.loop
    rw [if_pos (by omega), ih (i + 1) _ (by omega), List.drop_eq_getElem_cons (i := i) (by omega), List.reverse_cons, List.append_assoc]
    congr 2
    simp [ByteArray.get!]
    exact getElem!_pos a.data i (by rw [← Array.length_toList]; omega)
theorem bytes_toList (a : ByteArray) : a.toList = a.data.toList := by
  unfold ByteArray.toList
  rw [loop_eq a _ 0 [] rfl]
  rfl
theorem mk_list (l : List UInt8) : (⟨l.toArray⟩ : ByteArray).toList = l := by rw [bytes_toList]
theorem awake : gharrylaw25_awake.f = some true := by decide +kernel
end Go.Proofs.YtflbkgpmepfhlaaDoor.SayPure
