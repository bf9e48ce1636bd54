/- The document's answer to which step a line is, in plain Lean. -/
import Derived.Test.YtflbkgpmepfhlaaDoorPureLine
import Derived.Test.YtflbkgpmepfhlaaDoorFgharryref25Parse
import Derived.Test.YtflbkgpmepfhlaaDoorFgharryref25split
namespace Go.Proofs.YtflbkgpmepfhlaaDoor.SayPure
open Go.RowKit Go.Proofs.YtflbkgpmepfhlaaDoor.HSay Go.Proofs.YtflbkgpmepfhlaaDoor.Hook Go.Proofs.YtflbkgpmepfhlaaDoorW.PrintWords
set_option linter.unusedVariables false
abbrev R9 := Int × Int × Int × Int × Int × ByteArray × ByteArray × Bool × Bool
def flat9 (t : Option T8) : R9 := match t with
  | some t => (t.1, t.2.1, t.2.2.1, t.2.2.2.1, t.2.2.2.2.1, t.2.2.2.2.2.1, t.2.2.2.2.2.2.1, t.2.2.2.2.2.2.2, true)
  | none => (0, 0, 0, 0, 0, ⟨#[]⟩, ⟨#[]⟩, false, false)
theorem args_ref (ws : List ByteArray) (hl : ∀ w ∈ ws, w.size ≤ 1000000) (z : ByteArray) (hz : z.size ≤ 1000000) (hlen : ws.length = z.size + 1) : ∀ (n K i : Nat) (t : T8), i + n = z.size →
    gharryref25_Parse.l1 (n + K + 1) ws z (i : Int) t.1 t.2.1 t.2.2.1 t.2.2.2.1 t.2.2.2.2.1 t.2.2.2.2.2.1 t.2.2.2.2.2.2.1 t.2.2.2.2.2.2.2 = some (flat9 (readAll ((codes z).drop i) (ws.drop (i + 1)) t)) := by
  have hcl : (codes z).length = z.size := by unfold codes; rw [List.length_map, size_list]
  intro n
  induction n with
  | zero =>
    intro K i t hi
    rw [show 0 + K + 1 = K + 1 from by omega, gharryref25_Parse.l1, if_neg (by omega), List.drop_eq_nil_of_le (by omega)]
    rfl
  | succ n ih =>
    intro K i t hi
    have hiz : i < z.size := by omega
    have hiw : i + 1 < ws.length := by omega
    have hw := wrap64_of ((i : Int) + 1) (by omega) (by omega)
    have hsz := hl ws[i + 1] (List.getElem_mem hiw)
    have hrd : rdOf ByteArray.empty ws ((i : Int) + 1) = ws[i + 1] := by
      unfold rdOf
      rw [show ((i : Int) + 1).toNat = i + 1 from by omega, List.getD_eq_getElem?_getD, List.getElem?_eq_getElem hiw]
      rfl
    have hc : (codes z)[i]'(by omega) = codeN (bt z (i : Int)) := by
      unfold codes
      rw [List.getElem_map, byte_of_bt z i hiz]
    have hcount : ∀ m, gharryref25_count.f ws[i + 1] m = some (countF ws[i + 1].data.toList m) := fun m => if_pos hsz
    have go : ∀ t' : T8, gharryref25_Parse.l1 (n + K + 1) ws z ((i : Int) + 1) t'.1 t'.2.1 t'.2.2.1 t'.2.2.2.1 t'.2.2.2.2.1 t'.2.2.2.2.2.1 t'.2.2.2.2.2.2.1 t'.2.2.2.2.2.2.2 = some (flat9 (readAll ((codes z).drop (i + 1)) (ws.drop (i + 1 + 1)) t')) := fun t' => ih K (i + 1) t' (by omega)
    rw [show n + 1 + K + 1 = (n + K + 1) + 1 from by omega, gharryref25_Parse.l1, if_pos (by omega), hw, if_pos (by omega), if_pos (by omega), if_pos (by omega), List.drop_eq_getElem_cons (show i < (codes z).length by omega), List.drop_eq_getElem_cons hiw, readAll, hc, hrd]
    generalize hb : bt z (i : Int) = u
    obtain ⟨t0, t1, t2, t3, t4, t5, t6, t7⟩ := t
    generalize ws[i + 1] = w at *
    by_cases u1 : u = 119
    · rw [if_pos u1, hcount, Option.bind_some]; subst u1
      show _ = some (flat9 ((readF _ 1 w).bind _))
      have eF : readF (t0, t1, t2, t3, t4, t5, t6, t7) 1 w = (if (countF w.data.toList 1073741824).2 = true then some (t0, t1, (countF w.data.toList 1073741824).1, t3, t4, t5, t6, t7) else none) := by kernel_rfl
      rw [eF]
      by_cases h : (countF w.data.toList 1073741824).2 = true
      · rw [if_pos h, if_pos h, count_small _ h, Option.bind_some]; exact go (t0, t1, (countF w.data.toList 1073741824).1, t3, t4, t5, t6, t7)
      · rw [if_neg h, if_neg h]; rfl
    rw [if_neg u1]
    by_cases u2 : u = 110
    · rw [if_pos u2, hcount, Option.bind_some]; subst u2
      show _ = some (flat9 ((readF _ 2 w).bind _))
      have eF : readF (t0, t1, t2, t3, t4, t5, t6, t7) 2 w = (if (countF w.data.toList 1073741824).2 = true then some (t0, (countF w.data.toList 1073741824).1, t2, t3, t4, t5, t6, t7) else none) := by kernel_rfl
      rw [eF]
      by_cases h : (countF w.data.toList 1073741824).2 = true
      · rw [if_pos h, if_pos h, count_small _ h, Option.bind_some]; exact go (t0, (countF w.data.toList 1073741824).1, t2, t3, t4, t5, t6, t7)
      · rw [if_neg h, if_neg h]; rfl
    rw [if_neg u2]
    by_cases u3 : u = 107
    · rw [if_pos u3]; subst u3
      show _ = some (flat9 ((readF _ 5 w).bind _))
      have eF : readF (t0, t1, t2, t3, t4, t5, t6, t7) 5 w = (text w.data.toList).map fun s => (t0, t1, t2, t3, t4, ⟨s.toArray⟩, t6, t7) := by kernel_rfl
      rw [eF]
      cases h : text w.data.toList with
      | some s => rw [refText_some hsz h, Option.bind_some, if_pos rfl]; exact go (t0, t1, t2, t3, t4, ⟨s.toArray⟩, t6, t7)
      | none => rw [refText_none hsz h, Option.bind_some, if_neg (by simp)]; rfl
    rw [if_neg u3]
    by_cases u4 : u = 118
    · rw [if_pos u4]; subst u4
      show _ = some (flat9 ((readF _ 6 w).bind _))
      have eF : readF (t0, t1, t2, t3, t4, t5, t6, t7) 6 w = (text w.data.toList).map fun s => (t0, t1, t2, t3, t4, t5, ⟨s.toArray⟩, t7) := by kernel_rfl
      rw [eF]
      cases h : text w.data.toList with
      | some s => rw [refText_some hsz h, Option.bind_some, if_pos rfl]; exact go (t0, t1, t2, t3, t4, t5, ⟨s.toArray⟩, t7)
      | none => rw [refText_none hsz h, Option.bind_some, if_neg (by simp)]; rfl
    rw [if_neg u4]
    by_cases u5 : u = 99
    · rw [if_pos u5, hcount, Option.bind_some]; subst u5
      show _ = some (flat9 ((readF _ 3 w).bind _))
      have eF : readF (t0, t1, t2, t3, t4, t5, t6, t7) 3 w = (if (countF w.data.toList 1073741824).2 = true then some (t0, t1, t2, (countF w.data.toList 1073741824).1, t4, t5, t6, t7) else none) := by kernel_rfl
      rw [eF]
      by_cases h : (countF w.data.toList 1073741824).2 = true
      · rw [if_pos h, if_pos h, count_small _ h, Option.bind_some]; exact go (t0, t1, t2, (countF w.data.toList 1073741824).1, t4, t5, t6, t7)
      · rw [if_neg h, if_neg h]; rfl
    rw [if_neg u5]
    by_cases u6 : u = 109
    · rw [if_pos u6, hcount, Option.bind_some]; subst u6
      show _ = some (flat9 ((readF _ 4 w).bind _))
      have eF : readF (t0, t1, t2, t3, t4, t5, t6, t7) 4 w = (if (countF w.data.toList 18446744073709551615).2 = true then some (t0, t1, t2, t3, (countF w.data.toList 18446744073709551615).1, t5, t6, t7) else none) := by kernel_rfl
      rw [eF]
      by_cases h : (countF w.data.toList 18446744073709551615).2 = true
      · rw [if_pos h, if_pos h, Option.bind_some]; exact go (t0, t1, t2, t3, (countF w.data.toList 18446744073709551615).1, t5, t6, t7)
      · rw [if_neg h, if_neg h]; rfl
    rw [if_neg u6]
    have hcode : codeN u = 7 := by unfold codeN; rw [if_neg u1, if_neg u2, if_neg u3, if_neg u4, if_neg u5, if_neg u6]
    rw [hcode]
    have eF : readF (t0, t1, t2, t3, t4, t5, t6, t7) 7 w = if w.toList = [98, 111, 116, 104] then some (t0, t1, t2, t3, t4, t5, t6, true) else if w.toList = [111, 110, 101] then some (t0, t1, t2, t3, t4, t5, t6, false) else none := by kernel_rfl
    rw [eF]
    by_cases h1 : w.toList = ([98, 111, 116, 104] : List UInt8)
    · have hb : (w.toList == ([98, 111, 116, 104] : List UInt8)) = true := beq_iff_eq.2 h1
      rw [if_pos h1, if_pos h1, Option.bind_some, hb]; exact go (t0, t1, t2, t3, t4, t5, t6, true)
    · rw [if_neg h1, if_neg h1]
      have hb : (w.toList == ([98, 111, 116, 104] : List UInt8)) = false := beq_eq_false_iff_ne.2 h1
      by_cases h2 : w.toList = ([111, 110, 101] : List UInt8)
      · rw [if_pos h2, if_pos h2, Option.bind_some, hb]; exact go (t0, t1, t2, t3, t4, t5, t6, false)
      · rw [if_neg h2, if_neg h2]; rfl
theorem split_ref (s : ByteArray) (hs : s.size ≤ 1000000) : ∀ (n K i fr : Nat) (acc : List ByteArray), i + n = s.size → fr ≤ i → (32 : UInt8) ∉ (s.data.toList.take i).drop fr → acc.length ≤ i →
    gharryref25_split.l0 (n + K + 1) s acc (fr : Int) (i : Int) = some (acc ++ (splitL 32 (s.data.toList.drop fr)).map mkB) := by
  have hL := size_list s
  intro n
  induction n with
  | zero =>
    intro K i fr acc hi hf hn ha
    have he : s.data.toList.take i = s.data.toList := List.take_of_length_le (by omega)
    rw [he] at hn
    rw [show 0 + K + 1 = K + 1 from by omega, gharryref25_split.l0, if_neg (by omega), if_pos (by omega), if_pos (by omega), if_pos (by omega), split_none 32 _ hn, extract_mk, Int.toNat_natCast, List.take_of_length_le (by rw [List.length_drop]; omega)]
    try rfl
  | succ n ih =>
    intro K i fr acc hi hf hn ha
    have hil : i < s.data.toList.length := by omega
    have hw := wrap64_of ((i : Int) + 1) (by omega) (by omega)
    rw [show n + 1 + K + 1 = (n + K + 1) + 1 from by omega, gharryref25_split.l0, if_pos (by omega), if_pos (by omega), byte_of_bt s i (by omega), hw]
    by_cases hb : s.data.toList[i] = 32
    · rw [if_pos (by rw [hb]; rfl), if_pos (by omega), if_pos (by omega), if_pos (by omega), if_pos (by omega), extract_mk, Int.toNat_natCast, Int.toNat_natCast]
      have hd : s.data.toList.drop fr = (s.data.toList.drop fr).take (i - fr) ++ 32 :: s.data.toList.drop (i + 1) := by
        conv => lhs; rw [← List.take_append_drop (i - fr) (s.data.toList.drop fr)]
        rw [List.drop_drop, show fr + (i - fr) = i from by omega, List.drop_eq_getElem_cons hil, hb]
      have hno : (32 : UInt8) ∉ (s.data.toList.drop fr).take (i - fr) := by rw [← List.drop_take]; exact hn
      have := ih K (i + 1) (i + 1) (acc ++ [mkB ((s.data.toList.drop fr).take (i - fr))]) (by omega) (by omega) (by rw [List.drop_eq_nil_of_le (by simp; omega)]; simp) (by simp; omega)
      rw [show ((i + 1 : Nat) : Int) = (i : Int) + 1 from by omega] at this
      rw [this]
      conv => rhs; rw [hd, split_pre 32 _ _ hno]
      simp
    · have hne : ¬ ((s.data.toList[i]).toNat : Int) = 32 := by
        intro e
        exact hb (UInt8.toNat_inj.1 (by have : (s.data.toList[i]).toNat = 32 := by omega
                                        rw [this]; rfl))
      rw [if_neg hne]
      have := ih K (i + 1) fr acc (by omega) (by omega) (by
        rw [take_snoc _ i hil, List.drop_append_of_le_length (by rw [List.length_take]; omega)]
        intro hm
        rcases List.mem_append.1 hm with hm | hm
        · exact hn hm
        · exact hb (List.mem_singleton.1 hm).symm) (by omega)
      rw [show ((i + 1 : Nat) : Int) = (i : Int) + 1 from by omega] at this
      exact this
theorem parse_kinds (ws : List ByteArray) (w : ByteArray) (hw : rdOf ByteArray.empty ws 0 = w) (hp : 0 < ws.length) : ∀ (n K : Nat) (i kd : Int), 1 ≤ i → i + n = 22 →
    gharryref25_Parse.l0 (n + K) ws wordsB i kd 0 0 0 0 ⟨#[]⟩ ⟨#[]⟩ false = gharryref25_Parse.l0 K ws wordsB 22 (wantF w n i kd) 0 0 0 0 ⟨#[]⟩ ⟨#[]⟩ false := by
  intro n
  induction n with
  | zero =>
    intro K i kd h1 h2
    obtain rfl : i = 22 := by omega
    rw [Nat.zero_add]
    rfl
  | succ n ih =>
    intro K i kd h1 h2
    have hl : (wordsB.length : Int) = 22 := by decide
    rw [show n + 1 + K = (n + K) + 1 from by omega, gharryref25_Parse.l0, if_pos (by omega), if_pos (by omega), if_pos (by omega), hw, wrap64_of _ (by omega) (by omega), wantF]
    show (if (wd i).toList = w.toList then _ else _) = _
    split
    · exact ih K (i + 1) i (by omega) (by omega)
    · exact ih K (i + 1) kd (by omega) (by omega)
theorem ref_parse (s : ByteArray) (hs : s.size ≤ 300) : gharryref25_Parse.f 400 s = some (flat9 (parseF s)) := by
  obtain ⟨w, ws, hws⟩ := words_cons s
  have hk : kindOf s = wantF w 21 1 0 := by unfold kindOf; rw [hws]; rfl
  have hsp : gharryref25_split.f 400 s = some (wordsOf s) := by
    have := split_ref s (by omega) s.size (400 - 1 - s.size) 0 0 [] (by omega) (by omega) (by simp) (by simp)
    rw [show s.size + (400 - 1 - s.size) + 1 = 400 from by omega] at this
    exact this
  have hlen : (wordsOf s).length = ws.length + 1 := by rw [hws]; rfl
  have hll : ws.length ≤ 300 := by
    have h1 : (wordsOf s).length ≤ s.size + 1 := by
      unfold wordsOf
      rw [List.length_map, ← size_list]
      generalize s.data.toList = l
      induction l with
      | nil => simp [splitL]
      | cons b l ih =>
        rw [splitL]
        split
        · simp; omega
        · split
          · simp
          · rename_i q r he
            rw [he] at ih
            simp at ih ⊢
            omega
    omega
  have hrd : rdOf ByteArray.empty (wordsOf s) 0 = w := by rw [hws]; rfl
  unfold gharryref25_Parse.f
  rw [hsp, Option.bind_some, words_f, Option.bind_some, parse_kinds (wordsOf s) w hrd (by omega) 21 379 1 0 (by omega) (by omega), ← hk]
  have hl : (wordsB.length : Int) = 22 := by decide
  rw [show (379 : Nat) = 378 + 1 from rfl, gharryref25_Parse.l0, if_neg (by omega)]
  unfold parseF
  by_cases h0 : kindOf s = 0
  · rw [if_pos h0, if_pos h0]; rfl
  · obtain ⟨h1, h2, _⟩ := kind_range s h0
    obtain ⟨z, hz, hc, hsz, hf, hcl⟩ := codesOf_eq _ h1 h2
    rw [if_neg h0, if_neg h0, hz, Option.bind_some, hc, wrap64_of _ (by omega) (by omega)]
    by_cases he : (codes z).length + 1 = (wordsOf s).length
    · rw [if_pos (by omega), if_pos he]
      have := args_ref (wordsOf s) (fun x hx => by have := words_size s x hx; omega) z (by omega) (by omega) z.size (378 - 1 - z.size) 0 (zero8 (kindOf s)) (by omega)
      rw [show z.size + (378 - 1 - z.size) + 1 = 378 from by omega] at this
      exact this
    · rw [if_neg (by omega), if_neg he]; rfl
end Go.Proofs.YtflbkgpmepfhlaaDoor.SayPure
