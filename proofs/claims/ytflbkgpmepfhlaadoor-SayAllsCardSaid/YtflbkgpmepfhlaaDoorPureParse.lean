/- Which step a line is, in plain Lean: say's and the document's answer are one; a step's line is parsed back. -/
import Derived.Test.YtflbkgpmepfhlaaDoorPureCodes
namespace Go.Proofs.YtflbkgpmepfhlaaDoor.SayPure
open Go.RowKit Go.Proofs.YtflbkgpmepfhlaaDoor.HSay Go.Proofs.YtflbkgpmepfhlaaDoor.Hook Go.Proofs.YtflbkgpmepfhlaaDoorW.PrintWords
set_option linter.unusedVariables false
/-! ### numbers -/
theorem dec_ne (n : Nat) : dec n ≠ [] := by
  rw [dec]; split <;> simp
theorem dec_digit : ∀ (n : Nat) (c : UInt8), c ∈ dec n → 48 ≤ c.toNat ∧ c.toNat ≤ 57 := by
  intro n
  induction n using Nat.strongRecOn with
  | ind n ih =>
    intro c hc
    rw [dec] at hc
    have one : ∀ m : Nat, m < 10 → c = (48 + m).toUInt8 → 48 ≤ c.toNat ∧ c.toNat ≤ 57 := by
      intro m hm he
      subst he
      simp only [Nat.toUInt8_eq, UInt8.toNat_ofNat']
      omega
    split at hc
    · rename_i h
      exact one n h (by simpa using hc)
    · rcases List.mem_append.1 hc with hc | hc
      · exact ih (n / 10) (by omega) c hc
      · exact one (n % 10) (by omega) (by simpa using hc)
theorem val_append (l : List UInt8) (c : UInt8) : ∀ n : Int, val (l ++ [c]) n = (val l n).bind fun m => val [c] m := by
  induction l with
  | nil => intro n; rfl
  | cons d l ih =>
    intro n
    rw [List.cons_append, val, val]
    split
    · exact ih _
    · rfl
theorem val_dec : ∀ (n : Nat), n < 18446744073709551616 → val (dec n) 0 = some (n : Int) := by
  intro n
  induction n using Nat.strongRecOn with
  | ind n ih =>
    intro h
    have one : ∀ (m : Nat) (q : Int), m < 10 → 0 ≤ q → 10 * q + m < 18446744073709551616 → val [(48 + m).toUInt8] q = some (10 * q + m) := by
      intro m q hm hq hl
      have ht : ((48 + m).toUInt8.toNat : Int) = 48 + m := by
        simp only [Nat.toUInt8_eq, UInt8.toNat_ofNat']; omega
      rw [val, ht, if_pos (by omega), val]
      congr 1
      omega
    rw [dec]
    split
    · rename_i h9
      rw [one n 0 h9 (by omega) (by omega)]
      congr 1
      omega
    · rw [val_append, ih (n / 10) (by omega) (by omega), Option.bind_some, one (n % 10) _ (by omega) (by omega) (by omega)]
      congr 1
      omega
theorem dec_lead (n : Nat) (h : 0 < n) : (dec n).headD 0 ≠ 48 := by
  induction n using Nat.strongRecOn with
  | ind n ih =>
    rw [dec]
    split
    · rename_i h9
      have key : ∀ m : Fin 10, 0 < m.val → ([(48 + m.val).toUInt8] : List UInt8).headD 0 ≠ 48 := by decide
      exact key ⟨n, h9⟩ h
    · have h1 := ih (n / 10) (by omega) (by omega)
      cases hd : dec (n / 10) with
      | nil => exact absurd hd (dec_ne _)
      | cons c l => rw [hd] at h1; simpa using h1
theorem dec_good (n : Nat) (h : n < 18446744073709551616) : badCount (dec n) = false := by
  have h1 := dec_ne n
  have h2 : (dec n).length ≤ 20 := dec_le 19 n (by have h20 : (10 : Nat) ^ (19 + 1) = 100000000000000000000 := by decide
                                                   omega)
  unfold badCount
  have a1 : (dec n).isEmpty = false := by cases hd : dec n with
    | nil => exact absurd hd h1
    | cons c l => rfl
  have a3 : decide (20 < (dec n).length) = false := decide_eq_false (by omega)
  rw [a1, a3]
  by_cases hn : n = 0
  · subst hn; rw [dec, if_pos (by omega)]; decide
  · have := dec_lead n (by omega)
    simp
    intro _
    simpa using this
theorem count_dec (n most : Int) (h0 : 0 ≤ n) (h1 : n < 18446744073709551616) (hm : n ≤ most) : countF (dec n.toNat) most = (n, true) := by
  unfold countF
  rw [if_neg (by rw [dec_good _ (by omega)]; simp), val_dec _ (by omega)]
  simp only [show ((n.toNat : Nat) : Int) = n from by omega, decide_eq_true hm]
theorem dec_snoc (q : Nat) (r : Nat) (hr : r < 10) (hq : 0 < q) : dec (10 * q + r) = dec q ++ [(48 + r).toUInt8] := by
  rw [dec, if_neg (by omega), show (10 * q + r) / 10 = q from by omega, show (10 * q + r) % 10 = r from by omega]
theorem val_back : ∀ (l : List UInt8) (q : Nat) (m : Int), 0 < q → val l (q : Int) = some m → dec m.toNat = dec q ++ l := by
  intro l
  induction l with
  | nil => intro q m hq h; rw [val] at h; rw [← Option.some.inj h]; simp
  | cons c l ih =>
    intro q m hq h
    rw [val] at h
    split at h
    · rename_i hc
      have hn : 10 * (q : Int) + ((c.toNat : Int) - 48) = ((10 * q + (c.toNat - 48) : Nat) : Int) := by omega
      rw [hn] at h
      rw [ih _ m (by omega) h, dec_snoc q (c.toNat - 48) (by omega) hq, List.append_assoc]
      congr 1
      have : (48 + (c.toNat - 48)).toUInt8 = c := by
        rw [show 48 + (c.toNat - 48) = c.toNat from by omega]; simp
      rw [this]
      rfl
    · cases h
theorem dec_count (l : List UInt8) (most n : Int) (h : countF l most = (n, true)) : dec n.toNat = l ∧ 0 ≤ n ∧ n < 18446744073709551616 ∧ n ≤ most := by
  unfold countF at h
  split at h
  · exact absurd (Prod.mk.inj h).2 (by simp)
  rename_i hb
  split at h
  · rename_i m hv
    obtain ⟨h1, h2⟩ := Prod.mk.inj h
    subst h1
    have hr := val_lt l 0 m (by omega) (by omega) hv
    refine ⟨?_, hr.1, hr.2, of_decide_eq_true h2⟩
    cases l with
    | nil => simp [badCount] at hb
    | cons c l =>
      rw [val] at hv
      split at hv
      · rename_i hc
        by_cases hz : c = 48
        · subst hz
          cases l with
          | nil =>
            rw [val] at hv
            rw [← Option.some.inj hv]
            show dec 0 = [48]
            rw [dec, if_pos (by omega)]
            rfl
          | cons d l => simp [badCount] at hb
        · have hz' : c.toNat ≠ 48 := fun e => hz (UInt8.toNat_inj.1 (by rw [e]; rfl))
          have hn : 10 * (0 : Int) + ((c.toNat : Int) - 48) = ((c.toNat - 48 : Nat) : Int) := by omega
          rw [hn] at hv
          rw [val_back l _ m (by omega) hv, dec, if_pos (by omega)]
          have : (48 + (c.toNat - 48)).toUInt8 = c := by
            rw [show 48 + (c.toNat - 48) = c.toNat from by omega]; simp
          rw [this]
          rfl
      · cases hv
  · exact absurd (Prod.mk.inj h).2 (by simp)
/-! ### one argument -/
def readF (t : T8) (x : Int) (w : ByteArray) : Option T8 :=
  if x = 1 then (if (countF w.data.toList 1073741824).2 = true then some (t.1, t.2.1, (countF w.data.toList 1073741824).1, t.2.2.2) else none)
  else if x = 2 then (if (countF w.data.toList 1073741824).2 = true then some (t.1, (countF w.data.toList 1073741824).1, t.2.2) else none)
  else if x = 3 then (if (countF w.data.toList 1073741824).2 = true then some (t.1, t.2.1, t.2.2.1, (countF w.data.toList 1073741824).1, t.2.2.2.2) else none)
  else if x = 4 then (if (countF w.data.toList 18446744073709551615).2 = true then some (t.1, t.2.1, t.2.2.1, t.2.2.2.1, (countF w.data.toList 18446744073709551615).1, t.2.2.2.2.2) else none)
  else if x = 5 then (text w.data.toList).map fun s => (t.1, t.2.1, t.2.2.1, t.2.2.2.1, t.2.2.2.2.1, ⟨s.toArray⟩, t.2.2.2.2.2.2)
  else if x = 6 then (text w.data.toList).map fun s => (t.1, t.2.1, t.2.2.1, t.2.2.2.1, t.2.2.2.2.1, t.2.2.2.2.2.1, ⟨s.toArray⟩, t.2.2.2.2.2.2.2)
  else if w.toList = [98, 111, 116, 104] then some (t.1, t.2.1, t.2.2.1, t.2.2.2.1, t.2.2.2.2.1, t.2.2.2.2.2.1, t.2.2.2.2.2.2.1, true)
  else if w.toList = [111, 110, 101] then some (t.1, t.2.1, t.2.2.1, t.2.2.2.1, t.2.2.2.2.1, t.2.2.2.2.2.1, t.2.2.2.2.2.2.1, false)
  else none
def codeOk (x : Int) : Prop := 1 ≤ x ∧ x ≤ 7
theorem count_range (l : List UInt8) (most : Int) : 0 ≤ (countF l most).1 ∧ (countF l most).1 < 18446744073709551616 := by
  unfold countF
  split
  · simp
  · split
    · rename_i hv
      exact val_lt l 0 _ (by omega) (by omega) hv
    · simp
theorem count_small (l : List UInt8) (h : (countF l 1073741824).2 = true) : wrap64 (countF l 1073741824).1 = (countF l 1073741824).1 := by
  have hr := count_range l 1073741824
  obtain ⟨_, _, _, h4⟩ := dec_count l 1073741824 (countF l 1073741824).1 (by rw [← h])
  exact wrap64_of _ (by omega) (by omega)
set_option maxRecDepth 10000 in
theorem read_say (t : T8) (x : Int) (w : ByteArray) (hx : codeOk x) (hw : w.size ≤ 1000000) : (∀ t', readF t x w = some t' → read8 t x w = some (0, t')) ∧ (readF t x w = none → ∃ t', read8 t x w = some (4, t')) := by
  have hc : ∀ m, say_count.f w m = some (countF w.data.toList m) := fun m => if_pos (by omega)
  have htx : ∀ s, text w.data.toList = some s → say_Text.f w = some (⟨s.toArray⟩, 0) := fun s hs => sayText_some hw hs
  have htn : text w.data.toList = none → say_Text.f w = some (⟨#[]⟩, 4) := fun hs => sayText_none hw hs
  rcases (show x = 1 ∨ x = 2 ∨ x = 3 ∨ x = 4 ∨ x = 5 ∨ x = 6 ∨ x = 7 from by unfold codeOk at hx; omega) with rfl | rfl | rfl | rfl | rfl | rfl | rfl
  · have e8 : read8 t 1 w = (say_count.f w 1073741824).bind fun bt => if bt.2 = true then some (0, t.1, t.2.1, wrap64 bt.1, t.2.2.2) else some (4, t) := by kernel_rfl
    have eF : readF t 1 w = (if (countF w.data.toList 1073741824).2 = true then some (t.1, t.2.1, (countF w.data.toList 1073741824).1, t.2.2.2) else none) := by kernel_rfl
    rw [e8, eF, hc, Option.bind_some]
    by_cases h : (countF w.data.toList 1073741824).2 = true
    · rw [if_pos h, if_pos h, count_small _ h]; exact ⟨fun t' ht => (by rw [← Option.some.inj ht]), fun hn => (by cases hn)⟩
    · rw [if_neg h, if_neg h]; exact ⟨fun t' ht => (by cases ht), fun _ => ⟨_, rfl⟩⟩
  · have e8 : read8 t 2 w = (say_count.f w 1073741824).bind fun bt => if bt.2 = true then some (0, t.1, wrap64 bt.1, t.2.2) else some (4, t) := by kernel_rfl
    have eF : readF t 2 w = (if (countF w.data.toList 1073741824).2 = true then some (t.1, (countF w.data.toList 1073741824).1, t.2.2) else none) := by kernel_rfl
    rw [e8, eF, hc, Option.bind_some]
    by_cases h : (countF w.data.toList 1073741824).2 = true
    · rw [if_pos h, if_pos h, count_small _ h]; exact ⟨fun t' ht => (by rw [← Option.some.inj ht]), fun hn => (by cases hn)⟩
    · rw [if_neg h, if_neg h]; exact ⟨fun t' ht => (by cases ht), fun _ => ⟨_, rfl⟩⟩
  · have e8 : read8 t 3 w = (say_count.f w 1073741824).bind fun bt => if bt.2 = true then some (0, t.1, t.2.1, t.2.2.1, wrap64 bt.1, t.2.2.2.2) else some (4, t) := by kernel_rfl
    have eF : readF t 3 w = (if (countF w.data.toList 1073741824).2 = true then some (t.1, t.2.1, t.2.2.1, (countF w.data.toList 1073741824).1, t.2.2.2.2) else none) := by kernel_rfl
    rw [e8, eF, hc, Option.bind_some]
    by_cases h : (countF w.data.toList 1073741824).2 = true
    · rw [if_pos h, if_pos h, count_small _ h]; exact ⟨fun t' ht => (by rw [← Option.some.inj ht]), fun hn => (by cases hn)⟩
    · rw [if_neg h, if_neg h]; exact ⟨fun t' ht => (by cases ht), fun _ => ⟨_, rfl⟩⟩
  · have e8 : read8 t 4 w = (say_count.f w 18446744073709551615).bind fun bt => if bt.2 = true then some (0, t.1, t.2.1, t.2.2.1, t.2.2.2.1, bt.1, t.2.2.2.2.2) else some (4, t) := by kernel_rfl
    have eF : readF t 4 w = (if (countF w.data.toList 18446744073709551615).2 = true then some (t.1, t.2.1, t.2.2.1, t.2.2.2.1, (countF w.data.toList 18446744073709551615).1, t.2.2.2.2.2) else none) := by kernel_rfl
    rw [e8, eF, hc, Option.bind_some]
    by_cases h : (countF w.data.toList 18446744073709551615).2 = true
    · rw [if_pos h, if_pos h]; exact ⟨fun t' ht => (by rw [← Option.some.inj ht]), fun hn => (by cases hn)⟩
    · rw [if_neg h, if_neg h]; exact ⟨fun t' ht => (by cases ht), fun _ => ⟨_, rfl⟩⟩
  · have e8 : read8 t 5 w = (say_Text.f w).bind fun bt => some (bt.2, t.1, t.2.1, t.2.2.1, t.2.2.2.1, t.2.2.2.2.1, bt.1, t.2.2.2.2.2.2) := by kernel_rfl
    have eF : readF t 5 w = (text w.data.toList).map fun s => (t.1, t.2.1, t.2.2.1, t.2.2.2.1, t.2.2.2.2.1, ⟨s.toArray⟩, t.2.2.2.2.2.2) := by kernel_rfl
    rw [e8, eF]
    cases h : text w.data.toList with
    | some s => rw [htx s h, Option.bind_some]; exact ⟨fun t' ht => (by rw [← Option.some.inj ht]), fun hn => (by cases hn)⟩
    | none => rw [htn h, Option.bind_some]; exact ⟨fun t' ht => (by cases ht), fun _ => ⟨_, rfl⟩⟩
  · have e8 : read8 t 6 w = (say_Text.f w).bind fun bt => some (bt.2, t.1, t.2.1, t.2.2.1, t.2.2.2.1, t.2.2.2.2.1, t.2.2.2.2.2.1, bt.1, t.2.2.2.2.2.2.2) := by kernel_rfl
    have eF : readF t 6 w = (text w.data.toList).map fun s => (t.1, t.2.1, t.2.2.1, t.2.2.2.1, t.2.2.2.2.1, t.2.2.2.2.2.1, ⟨s.toArray⟩, t.2.2.2.2.2.2.2) := by kernel_rfl
    rw [e8, eF]
    cases h : text w.data.toList with
    | some s => rw [htx s h, Option.bind_some]; exact ⟨fun t' ht => (by rw [← Option.some.inj ht]), fun hn => (by cases hn)⟩
    | none => rw [htn h, Option.bind_some]; exact ⟨fun t' ht => (by cases ht), fun _ => ⟨_, rfl⟩⟩
  · have e8 : read8 t 7 w = if w.toList = ([98, 111, 116, 104] : List UInt8) then some (0, t.1, t.2.1, t.2.2.1, t.2.2.2.1, t.2.2.2.2.1, t.2.2.2.2.2.1, t.2.2.2.2.2.2.1, (w.toList == ([98, 111, 116, 104] : List UInt8))) else if w.toList = ([111, 110, 101] : List UInt8) then some (0, t.1, t.2.1, t.2.2.1, t.2.2.2.1, t.2.2.2.2.1, t.2.2.2.2.2.1, t.2.2.2.2.2.2.1, (w.toList == ([98, 111, 116, 104] : List UInt8))) else some (4, t.1, t.2.1, t.2.2.1, t.2.2.2.1, t.2.2.2.2.1, t.2.2.2.2.2.1, t.2.2.2.2.2.2.1, (w.toList == ([98, 111, 116, 104] : List UInt8))) := by kernel_rfl
    have eF : readF t 7 w = if w.toList = [98, 111, 116, 104] then some (t.1, t.2.1, t.2.2.1, t.2.2.2.1, t.2.2.2.2.1, t.2.2.2.2.2.1, t.2.2.2.2.2.2.1, true) else if w.toList = [111, 110, 101] then some (t.1, t.2.1, t.2.2.1, t.2.2.2.1, t.2.2.2.2.1, t.2.2.2.2.2.1, t.2.2.2.2.2.2.1, false) else none := by kernel_rfl
    rw [e8, eF]
    by_cases h1 : w.toList = ([98, 111, 116, 104] : List UInt8)
    · have hb : (w.toList == ([98, 111, 116, 104] : List UInt8)) = true := beq_iff_eq.2 h1
      rw [if_pos h1, if_pos h1, hb]; exact ⟨fun t' ht => (by rw [← Option.some.inj ht]), fun hn => (by cases hn)⟩
    · rw [if_neg h1, if_neg h1]
      have hb : (w.toList == ([98, 111, 116, 104] : List UInt8)) = false := beq_eq_false_iff_ne.2 h1
      by_cases h2 : w.toList = ([111, 110, 101] : List UInt8)
      · rw [if_pos h2, if_pos h2, hb]; exact ⟨fun t' ht => (by rw [← Option.some.inj ht]), fun hn => (by cases hn)⟩
      · rw [if_neg h2, if_neg h2]; exact ⟨fun t' ht => (by cases ht), fun _ => ⟨_, rfl⟩⟩
/-- All the arguments. -/
def readAll : List Int → List ByteArray → T8 → Option T8
  | [], _, t => some t
  | x :: xs, w :: ws, t => (readF t x w).bind fun t' => readAll xs ws t'
  | _ :: _, [], _ => none
theorem args_say (l : List ByteArray) (hl : ∀ w ∈ l, w.size ≤ 1000000) : ∀ (xs : List Int) (i : Nat) (t : T8), (∀ x ∈ xs, codeOk x) → i + xs.length = l.length →
    argsF l xs i t = some (match readAll xs (l.drop i) t with | some t' => (t', 0) | none => (zero8 0, 4)) := by
  intro xs
  induction xs with
  | nil => intro i t _ _; rfl
  | cons x xs ih =>
    intro i t hx hi
    simp only [List.length_cons] at hi
    have hil : i < l.length := by omega
    have hw := hl l[i] (List.getElem_mem hil)
    have hr := read_say t x l[i] (hx x (by simp)) hw
    rw [argsF, List.getElem?_eq_getElem hil, List.drop_eq_getElem_cons hil, readAll]
    show (read8 t x l[i]).bind _ = _
    cases hq : readF t x l[i] with
    | some t' =>
      rw [hr.1 t' hq, Option.bind_some, if_pos rfl, Option.bind_some]
      exact ih (i + 1) t' (fun y hy => hx y (by simp [hy])) (by omega)
    | none =>
      obtain ⟨t', ht'⟩ := hr.2 hq
      rw [ht', Option.bind_some, if_neg (show ¬ (4 : Int) = 0 by decide)]
      rfl
end Go.Proofs.YtflbkgpmepfhlaaDoor.SayPure
