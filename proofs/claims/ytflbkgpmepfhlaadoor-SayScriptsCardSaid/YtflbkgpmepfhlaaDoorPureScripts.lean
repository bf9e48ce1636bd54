/- The plain law of SayScripts. -/
import Derived.Test.YtflbkgpmepfhlaaDoorPureRef
import Derived.Test.YtflbkgpmepfhlaaDoorFsayScript
import Derived.Test.YtflbkgpmepfhlaaDoorFgharrylaw25SayScripts
namespace Go.Proofs.YtflbkgpmepfhlaaDoor.SayPure
open Go.RowKit Go.Proofs.YtflbkgpmepfhlaaDoor.HSay Go.Proofs.YtflbkgpmepfhlaaDoor.Hook Go.Proofs.YtflbkgpmepfhlaaDoorW.PrintWords
set_option linter.unusedVariables false
theorem words_count (s : ByteArray) : (wordsOf s).length ≤ s.size + 1 := by
  unfold wordsOf
  rw [List.length_map, ← size_list]
  generalize s.data.toList = l
  induction l with
  | nil => simp [splitL]
  | cons b l ih =>
    rw [splitL]
    split
    · simp; omega
    · split
      · simp
      · rename_i q r he
        rw [he] at ih
        simp at ih ⊢
        omega
theorem ref_parse_k (s : ByteArray) (hs : s.size ≤ 600) (k : Nat) (hk : 700 ≤ k) : gharryref25_Parse.f k s = some (flat9 (parseF s)) := by
  obtain ⟨w, ws, hws⟩ := words_cons s
  have hkd : kindOf s = wantF w 21 1 0 := by unfold kindOf; rw [hws]; rfl
  have hsp : gharryref25_split.f k s = some (wordsOf s) := by
    have := split_ref s (by omega) s.size (k - 1 - s.size) 0 0 [] (by omega) (by omega) (by simp) (by simp)
    rw [show s.size + (k - 1 - s.size) + 1 = k from by omega] at this
    exact this
  have hlen : (wordsOf s).length = ws.length + 1 := by rw [hws]; rfl
  have hll := words_count s
  have hrd : rdOf ByteArray.empty (wordsOf s) 0 = w := by rw [hws]; rfl
  have hpk := parse_kinds (wordsOf s) w hrd (by omega) 21 (k - 21) 1 0 (by omega) (by omega)
  rw [show 21 + (k - 21) = k from by omega] at hpk
  unfold gharryref25_Parse.f
  rw [hsp, Option.bind_some, words_f, Option.bind_some, hpk, ← hkd]
  have hl : (wordsB.length : Int) = 22 := by decide
  rw [show k - 21 = (k - 22) + 1 from by omega, gharryref25_Parse.l0, if_neg (by omega)]
  unfold parseF
  by_cases h0 : kindOf s = 0
  · rw [if_pos h0, if_pos h0]; rfl
  · obtain ⟨h1, h2, _⟩ := kind_range s h0
    obtain ⟨z, hz, hc, hsz, hf, hcl⟩ := codesOf_eq _ h1 h2
    rw [if_neg h0, if_neg h0, hz, Option.bind_some, hc, wrap64_of _ (by omega) (by omega)]
    by_cases he : (codes z).length + 1 = (wordsOf s).length
    · rw [if_pos (by omega), if_pos he]
      have := args_ref (wordsOf s) (fun x hx => by have := words_size s x hx; omega) z (by omega) (by omega) z.size (k - 22 - 1 - z.size) 0 (zero8 (kindOf s)) (by omega)
      rw [show z.size + (k - 22 - 1 - z.size) + 1 = k - 22 from by omega] at this
      exact this
    · rw [if_neg (by omega), if_neg he]; rfl
theorem sayParse_some {s : ByteArray} (hs : s.size ≤ 1000000) {t : T8} (h : parseF s = some t) : say_Parse.f s = some (t.1, t.2.1, t.2.2.1, t.2.2.2.1, t.2.2.2.2.1, t.2.2.2.2.2.1, t.2.2.2.2.2.2.1, t.2.2.2.2.2.2.2, 0) := by
  unfold say_Parse.f
  rw [say_parse s hs, h]
  rfl
theorem sayParse_none {s : ByteArray} (hs : s.size ≤ 1000000) (h : parseF s = none) : say_Parse.f s = some (0, 0, 0, 0, 0, ⟨#[]⟩, ⟨#[]⟩, false, 4) := by
  unfold say_Parse.f
  rw [say_parse s hs, h]
  rfl
def toS (t : T8) : S32 := ⟨t.1, t.2.1, t.2.2.1, t.2.2.2.1, t.2.2.2.2.1, t.2.2.2.2.2.1, t.2.2.2.2.2.2.1, t.2.2.2.2.2.2.2⟩
/-- The steps of lines; or which one is none. -/
def scriptF : List ByteArray → Nat → List S32 → List S32 × Int × Int
  | [], _, acc => (acc, 0, 0)
  | l :: ls, i, acc => match parseF l with
    | some t => scriptF ls (i + 1) (acc ++ [toS t])
    | none => ([], (i : Int), 4)
theorem script_end : ∀ (ls : List ByteArray) (i : Nat) (acc : List S32), (scriptF ls i acc).2.2 = 0 ∧ (scriptF ls i acc).2.1 = 0 ∨ (scriptF ls i acc).2.2 = 4 ∧ (scriptF ls i acc).1 = [] := by
  intro ls
  induction ls with
  | nil => intro i acc; exact Or.inl ⟨rfl, rfl⟩
  | cons l ls ih =>
    intro i acc
    rw [scriptF]
    split
    · exact ih _ _
    · exact Or.inr ⟨rfl, rfl⟩
theorem script_loop (ls : List ByteArray) (hl : ∀ l ∈ ls, l.size ≤ 1000000) (hn : ls.length ≤ 1000000) : ∀ (n K i : Nat) (acc : List S32), i + n = ls.length → acc.length = i →
    say_Script.l0 (n + K + 1) acc ls (ls.length : Int) (i : Int) = some (scriptF (ls.drop i) i acc) := by
  intro n
  induction n with
  | zero =>
    intro K i acc hi ha
    rw [show 0 + K + 1 = K + 1 from by omega, say_Script.l0, if_neg (by omega), List.drop_eq_nil_of_le (by omega)]
    rfl
  | succ n ih =>
    intro K i acc hi ha
    have hil : i < ls.length := by omega
    have hsz := hl ls[i] (List.getElem_mem hil)
    have hrd : rdOf ByteArray.empty ls (i : Int) = ls[i] := by
      unfold rdOf
      rw [Int.toNat_natCast, List.getD_eq_getElem?_getD, List.getElem?_eq_getElem hil]
      rfl
    rw [show n + 1 + K + 1 = (n + K + 1) + 1 from by omega, say_Script.l0, if_pos (by omega), if_pos (by omega), if_pos (by omega), hrd, List.drop_eq_getElem_cons hil, scriptF]
    cases hq : parseF ls[i] with
    | some t =>
      rw [sayParse_some hsz hq, Option.bind_some, if_pos rfl, if_pos (by omega), wrap64_of _ (by omega) (by omega)]
      exact ih K (i + 1) (acc ++ [toS t]) (by omega) (by simp; omega)
    | none =>
      rw [sayParse_none hsz hq, Option.bind_some, if_neg (show ¬ (4 : Int) = 0 by decide)]
/-- A text without a break at its end. -/
def trimL : List UInt8 → List UInt8
  | [] => []
  | [b] => if b = 10 then [] else [b]
  | b :: c :: l => b :: trimL (c :: l)
theorem trim_snoc (b : UInt8) : ∀ p : List UInt8, trimL (p ++ [b]) = if b = 10 then p else p ++ [b]
  | [] => by rw [List.nil_append, trimL]
  | [c] => by
    show c :: trimL [b] = _
    rw [trimL]
    split <;> rfl
  | c :: d :: p => by
    show c :: trimL ((d :: p) ++ [b]) = _
    rw [trim_snoc b (d :: p)]
    split <;> rfl
theorem trim_app (b : UInt8) (D : List UInt8) (hD : D ≠ []) : ∀ p : List UInt8, trimL (p ++ b :: D) = p ++ b :: trimL D
  | [] => by
    cases D with
    | nil => exact absurd rfl hD
    | cons d D => rfl
  | [c] => by
    show c :: trimL (b :: D) = _
    have := trim_app b D hD []
    rw [List.nil_append, List.nil_append] at this
    rw [this]
    rfl
  | c :: d :: p => by
    show c :: trimL ((d :: p) ++ b :: D) = _
    rw [trim_app b D hD (d :: p)]
    rfl
theorem trim_none : ∀ p : List UInt8, (10 : UInt8) ∉ p → trimL p = p
  | [], _ => rfl
  | [b], h => by rw [trimL, if_neg (fun e => h (by simp [e]))]
  | b :: c :: l, h => by rw [trimL, trim_none (c :: l) (fun e => h (by simp [e]))]
theorem trim_len : ∀ p : List UInt8, (trimL p).length ≤ p.length
  | [] => Nat.le_refl _
  | [b] => by rw [trimL]; split <;> simp
  | b :: c :: l => by
    have := trim_len (c :: l)
    rw [trimL]
    simp only [List.length_cons] at this ⊢
    omega
/-- A text's lines. -/
def linesT (D : List UInt8) : List (List UInt8) := if D = [] then [] else splitL 10 (trimL D)
theorem lines_one (p : List UInt8) (hp : p ≠ []) (h : (10 : UInt8) ∉ p) : linesT p = [p] := by
  unfold linesT
  rw [if_neg hp, trim_none p h, split_none 10 p h]
theorem lines_last (p : List UInt8) (h : (10 : UInt8) ∉ p) : linesT (p ++ [10]) = [p] := by
  unfold linesT
  rw [if_neg (by simp), trim_snoc, if_pos rfl, split_none 10 p h]
theorem lines_cons (p D : List UInt8) (h : (10 : UInt8) ∉ p) (hD : D ≠ []) : linesT (p ++ 10 :: D) = p :: linesT D := by
  unfold linesT
  rw [if_neg (by simp), if_neg hD, trim_app 10 D hD p, split_pre 10 _ p h]
theorem lines_next (p D : List UInt8) (h : (10 : UInt8) ∉ p) : linesT (p ++ 10 :: D) = p :: linesT D := by
  by_cases hD : D = []
  · subst hD
    rw [lines_last p h]
    rfl
  · exact lines_cons p D h hD
theorem trim_f (s : ByteArray) (h0 : s.data.toList ≠ []) (hs : s.size ≤ 1000000) : strings_TrimSuffix.f s ⟨#[10]⟩ = some (mkB (trimL s.data.toList)) := by
  have hL := size_list s
  obtain ⟨p, b, hpb⟩ : ∃ p b, s.data.toList = p ++ [b] := ⟨_, _, (List.dropLast_concat_getLast h0).symm⟩
  have hsz : s.size = p.length + 1 := by rw [← hL, hpb]; simp
  have hone : ((⟨#[10]⟩ : ByteArray).size : Int) = 1 := rfl
  have hw : wrap64 ((s.size : Int) - 1) = (p.length : Int) := by rw [wrap64_of _ (by omega) (by omega)]; omega
  unfold strings_TrimSuffix.f stringslite_TrimSuffix.f stringslite_HasSuffix.f
  rw [hone, hw, if_pos (by omega), if_pos (by omega), if_pos (by omega), Option.bind_some, Int.toNat_natCast, extract_mk, extract_mk]
  have e1 : (s.data.toList.drop p.length).take (s.size - p.length) = [b] := by
    rw [hpb, List.drop_left, hsz]
    simp
  have e2 : (s.data.toList.drop 0).take (p.length - 0) = p := by
    rw [hpb]
    simp
  rw [e1, e2, hpb, trim_snoc]
  have hb : ((mkB [b]).toList == (⟨#[10]⟩ : ByteArray).toList) = decide (b = 10) := by
    rw [bytes_toList, bytes_toList]
    show ([b] == [10]) = _
    by_cases hb : b = 10
    · subst hb; rfl
    · rw [decide_eq_false hb]
      simpa using hb
  rw [hb]
  by_cases hbb : b = 10
  · rw [if_pos (decide_eq_true hbb), if_pos (by omega), if_pos (by omega), if_pos hbb]
    rfl
  · rw [decide_eq_false hbb, if_neg (by simp), if_neg hbb, ← hpb]
    show some s = _
    congr 1
    try exact ext_list rfl
theorem script_f (s : ByteArray) (hs : s.size ≤ 600) (k : Nat) (hk : 700 ≤ k) : say_Script.f k s = some (scriptF ((linesT s.data.toList).map mkB) 0 []) := by
  have hL := size_list s
  unfold say_Script.f linesT
  by_cases h0 : s.data.toList = []
  · rw [if_pos (by rw [bytes_toList]; exact h0), if_pos h0]
    try rfl
  · rw [if_neg (by rw [bytes_toList]; exact h0), if_neg h0, trim_f s h0 (by omega), Option.bind_some]
    have htl := trim_len s.data.toList
    have hsp : strings_Split.f (mkB (trimL s.data.toList)) ⟨#[10]⟩ = some ((splitL 10 (trimL s.data.toList)).map mkB) := if_pos (by rw [mkB_size]; omega)
    rw [hsp, Option.bind_some]
    have hcnt : ((splitL 10 (trimL s.data.toList)).map mkB).length ≤ 601 := by
      have key : ∀ l : List UInt8, (splitL 10 l).length ≤ l.length + 1 := by
        intro l
        induction l with
        | nil => simp [splitL]
        | cons b l ih =>
          rw [splitL]
          split
          · simp; omega
          · split
            · simp
            · rename_i q r he
              rw [he] at ih
              simp at ih ⊢
              omega
      have := key (trimL s.data.toList)
      rw [List.length_map]
      omega
    have := script_loop ((splitL 10 (trimL s.data.toList)).map mkB) (by
      intro l hl
      obtain ⟨q, hq, rfl⟩ := List.mem_map.1 hl
      have := split_len 10 _ q hq
      rw [mkB_size]; omega) (by omega) _ (k - 1 - ((splitL 10 (trimL s.data.toList)).map mkB).length) 0 [] (Nat.zero_add _) rfl
    rw [show ((splitL 10 (trimL s.data.toList)).map mkB).length + (k - 1 - ((splitL 10 (trimL s.data.toList)).map mkB).length) + 1 = k from by omega, List.drop_zero] at this
    exact this
/-- What the law's own walk ends with. -/
def endF (K : Nat) (x3 : List S32) (x4 x5 : Int) (r : List S32 × Int × Int) : Option Bool :=
  if r.2.2 = 0 then gharrylaw25_SayScripts.l1 K x3 x4 x5 r.1 0 else (if (x3.length : Int) = 0 then (if x4 = r.2.1 then (if x5 = 4 then some true else some false) else some false) else some false)
theorem scripts_parse (s : ByteArray) (hs : s.size ≤ 600) (x3 : List S32) (x4 x5 : Int) (K : Nat) (hK : 700 ≤ K) (line fr i : Nat) (want : List S32) (D : List (List UInt8)) (hfi : fr ≤ i) (his : i ≤ s.size) (hwl : want.length = line) (hli : line ≤ i)
    (next : ∀ want' : List S32, want'.length = line + 1 → gharrylaw25_SayScripts.l0 K s x3 x4 x5 want' ((line : Int) + 1) ((i : Int) + 1) ((i : Int) + 1) = endF 2000 x3 x4 x5 (scriptF (D.map mkB) (line + 1) want')) :
    gharrylaw25_SayScripts.j2 (K + 1) s x3 x4 x5 want (line : Int) (fr : Int) (i : Int) false = endF 2000 x3 x4 x5 (scriptF ((((s.data.toList.drop fr).take (i - fr)) :: D).map mkB) line want) := by
  have hL := size_list s
  rw [gharrylaw25_SayScripts.j2, if_neg (by simp), if_pos (by omega), if_pos (by omega), if_pos (by omega), Int.toNat_natCast, Int.toNat_natCast, extract_mk, List.map_cons, scriptF]
  have hsz : (mkB ((s.data.toList.drop fr).take (i - fr))).size ≤ 600 := by rw [mkB_size, List.length_take]; omega
  rw [ref_parse_k _ hsz K hK, Option.bind_some]
  cases hq : parseF (mkB ((s.data.toList.drop fr).take (i - fr))) with
  | some t =>
    rw [wrap64_of _ (by omega) (by omega), wrap64_of _ (by omega) (by omega)]
    show (if true = true then (if want.length < 1759218604441 then gharrylaw25_SayScripts.l0 K s x3 x4 x5 (want ++ [toS t]) ((line : Int) + 1) ((i : Int) + 1) ((i : Int) + 1) else none) else _) = _
    rw [if_pos rfl, if_pos (by omega)]
    exact next _ (by simp; omega)
  | none =>
    show (if false = true then _ else _) = _
    rw [if_neg (by simp), awake]
    rfl
theorem scripts_loop (s : ByteArray) (hs : s.size ≤ 600) (x3 : List S32) (x4 x5 : Int) : ∀ (n i fr line : Nat) (want : List S32), i + n = s.size → fr ≤ i → (10 : UInt8) ∉ (s.data.toList.take i).drop fr → want.length = line → line ≤ i → (fr = s.size → 0 < line ∨ s.size = 0) →
    gharrylaw25_SayScripts.l0 (2 * n + 2003) s x3 x4 x5 want (line : Int) (fr : Int) (i : Int) = endF 2000 x3 x4 x5 (scriptF ((linesT (s.data.toList.drop fr)).map mkB) line want) := by
  have hL := size_list s
  have past : ∀ (want : List S32) (l f : Int), gharrylaw25_SayScripts.l0 2001 s x3 x4 x5 want l f ((s.size : Int) + 1) = endF 2000 x3 x4 x5 (want, 0, 0) := by
    intro want l f
    rw [show (2001 : Nat) = 2000 + 1 from rfl, gharrylaw25_SayScripts.l0, if_neg (by omega)]
    unfold endF
    rw [if_pos rfl]
  intro n
  induction n with
  | zero =>
    intro i fr line want hi hf hn hw hl hc
    obtain rfl : i = s.size := by omega
    have hw1 := wrap64_of ((s.size : Int) + 1) (by omega) (by omega)
    rw [show 2 * 0 + 2003 = 2002 + 1 from rfl, gharrylaw25_SayScripts.l0, if_pos (by omega), if_neg (by omega), if_pos rfl]
    by_cases hfs : fr = s.size
    · have hd : s.data.toList.drop fr = [] := List.drop_eq_nil_of_le (by omega)
      rw [if_pos (by omega), hd]
      show _ = endF 2000 x3 x4 x5 (want, 0, 0)
      have go : gharrylaw25_SayScripts.j2 2002 s x3 x4 x5 want (line : Int) (fr : Int) (s.size : Int) true = endF 2000 x3 x4 x5 (want, 0, 0) := by
        rw [show (2002 : Nat) = 2001 + 1 from rfl, gharrylaw25_SayScripts.j2, if_pos rfl, hw1]
        exact past want _ _
      by_cases hl0 : 0 < line
      · rw [if_pos (by omega)]
        exact go
      · rw [if_neg (by omega)]
        have hz : ((s.size : Int) == 0) = true := by
          rcases hc hfs with h | h
          · omega
          · rw [h]; rfl
        rw [hz]
        exact go
    · rw [if_neg (by omega)]
      have htk : s.data.toList.take s.size = s.data.toList := List.take_of_length_le (by omega)
      rw [htk] at hn
      have hne : s.data.toList.drop fr ≠ [] := by
        intro e
        have := congrArg List.length e
        rw [List.length_drop] at this
        simp at this
        omega
      have hp : (s.data.toList.drop fr).take (s.size - fr) = s.data.toList.drop fr := List.take_of_length_le (by rw [List.length_drop]; omega)
      have := scripts_parse s hs x3 x4 x5 2001 (by omega) line fr s.size want [] hf (Nat.le_refl _) hw hl (fun want' _ => past want' _ _)
      rw [hp] at this
      rw [lines_one _ hne hn]
      exact this
  | succ n ih =>
    intro i fr line want hi hf hn hw hl hc
    have hil : i < s.data.toList.length := by omega
    have hw1 := wrap64_of ((i : Int) + 1) (by omega) (by omega)
    rw [show 2 * (n + 1) + 2003 = (2 * n + 2004) + 1 from by omega, gharrylaw25_SayScripts.l0, if_pos (by omega), if_pos (by omega), if_pos (by omega), byte_of_bt s i (by omega)]
    by_cases hb : s.data.toList[i] = 10
    · rw [if_pos (by rw [hb]; rfl), if_neg (by omega)]
      have hd : s.data.toList.drop fr = (s.data.toList.drop fr).take (i - fr) ++ 10 :: s.data.toList.drop (i + 1) := by
        conv => lhs; rw [← List.take_append_drop (i - fr) (s.data.toList.drop fr)]
        rw [List.drop_drop, show fr + (i - fr) = i from by omega, List.drop_eq_getElem_cons hil, hb]
      have hno : (10 : UInt8) ∉ (s.data.toList.drop fr).take (i - fr) := by rw [← List.drop_take]; exact hn
      have := scripts_parse s hs x3 x4 x5 (2 * n + 2003) (by omega) line fr i want (linesT (s.data.toList.drop (i + 1))) hf (by omega) hw hl (by
        intro want' hw'
        have := ih (i + 1) (i + 1) (line + 1) want' (by omega) (by omega) (by rw [List.drop_eq_nil_of_le (by rw [List.length_take]; omega)]; simp) hw' (by omega) (fun _ => Or.inl (by omega))
        rw [show ((i + 1 : Nat) : Int) = (i : Int) + 1 from by omega, show ((line + 1 : Nat) : Int) = (line : Int) + 1 from by omega] at this
        exact this)
      rw [show 2 * n + 2004 = (2 * n + 2003) + 1 from by omega, this]
      conv => rhs; rw [hd, lines_next _ _ hno]
    · have hne : ¬ ((s.data.toList[i]).toNat : Int) = 10 := by
        intro e
        exact hb (UInt8.toNat_inj.1 (by have : (s.data.toList[i]).toNat = 10 := by omega
                                        rw [this]; rfl))
      rw [if_neg hne, show 2 * n + 2004 = (2 * n + 2003) + 1 from by omega, gharrylaw25_SayScripts.j2, if_pos rfl, hw1]
      have := ih (i + 1) fr line want (by omega) (by omega) (by
        rw [take_snoc _ i hil, List.drop_append_of_le_length (by rw [List.length_take]; omega)]
        intro hm
        rcases List.mem_append.1 hm with hm | hm
        · exact hn hm
        · exact hb (List.mem_singleton.1 hm).symm) hw (by omega) hc
      rw [show ((i + 1 : Nat) : Int) = (i : Int) + 1 from by omega] at this
      exact this
theorem eq_loop (l : List S32) (hl : l.length ≤ 100000) : ∀ (n K i : Nat), i + n = l.length → gharrylaw25_SayScripts.l1 (2 * n + 2 + K) l 0 0 l (i : Int) = some true := by
  have hlast : ∀ (K i : Nat), gharrylaw25_SayScripts.j4 (K + 1) l 0 0 l (i : Int) false = some true := by
    intro K i
    rw [gharrylaw25_SayScripts.j4, if_neg (by simp), if_pos rfl, if_pos rfl, if_pos rfl, awake]
    rfl
  intro n
  induction n with
  | zero =>
    intro K i hi
    rw [show 2 * 0 + 2 + K = (K + 1) + 1 from by omega, gharrylaw25_SayScripts.l1, if_neg (by omega)]
    exact hlast K i
  | succ n ih =>
    intro K i hi
    have he : ((l.length : Int) == (l.length : Int)) = true := by simp
    rw [show 2 * (n + 1) + 2 + K = ((2 * n + 2 + K) + 1) + 1 from by omega, gharrylaw25_SayScripts.l1, if_pos (by omega), he, gharrylaw25_SayScripts.j4, if_pos rfl, if_pos (by omega), if_pos (by omega), if_pos (by omega), if_neg (by simp), wrap64_of _ (by omega) (by omega)]
    exact ih K (i + 1) (by omega)
theorem script_len : ∀ (ls : List ByteArray) (i : Nat) (acc : List S32), (scriptF ls i acc).1.length ≤ acc.length + ls.length := by
  intro ls
  induction ls with
  | nil => intro i acc; rw [scriptF]; simp
  | cons l ls ih =>
    intro i acc
    rw [scriptF]
    split
    · have := ih (i + 1) (acc ++ [toS ‹_›])
      simp only [List.length_append, List.length_cons, List.length_nil] at this ⊢
      omega
    · simp
theorem lines_count (D : List UInt8) : (linesT D).length ≤ D.length + 1 := by
  have key : ∀ l : List UInt8, (splitL 10 l).length ≤ l.length + 1 := by
    intro l
    induction l with
    | nil => simp [splitL]
    | cons b l ih =>
      rw [splitL]
      split
      · simp; omega
      · split
        · simp
        · rename_i q r he
          rw [he] at ih
          simp at ih ⊢
          omega
  unfold linesT
  split
  · simp
  · have := key (trimL D)
    have := trim_len D
    omega
theorem scripts_text (s : ByteArray) (hs : s.size ≤ 600) : gharrylaw25_SayScripts.j0 3204 s = some true ∨ s.size < s.size := by
  left
  have hL := size_list s
  obtain ⟨F, hF⟩ : ∃ F, 3203 = F := ⟨_, rfl⟩
  rw [gharrylaw25_SayScripts.j0, script_f s hs _ (by omega), Option.bind_some]
  have h1 := scripts_loop s hs (scriptF ((linesT s.data.toList).map mkB) 0 []).1 (scriptF ((linesT s.data.toList).map mkB) 0 []).2.1 (scriptF ((linesT s.data.toList).map mkB) 0 []).2.2 s.size 0 0 0 [] (by omega) (by omega) (by simp) rfl (by omega) (fun h => Or.inr h.symm)
  rw [List.drop_zero] at h1
  have up : ∀ d, gharrylaw25_SayScripts.l0 (2 * s.size + 2003 + d) s (scriptF ((linesT s.data.toList).map mkB) 0 []).1 (scriptF ((linesT s.data.toList).map mkB) 0 []).2.1 (scriptF ((linesT s.data.toList).map mkB) 0 []).2.2 [] 0 0 0 = some true := by
    intro d
    induction d with
    | zero =>
      refine h1.trans ?_
      have hlen := script_len ((linesT s.data.toList).map mkB) 0 []
      have hcount := lines_count s.data.toList
      rw [List.length_map, List.length_nil, Nat.zero_add] at hlen
      have hend := script_end ((linesT s.data.toList).map mkB) 0 []
      generalize scriptF ((linesT s.data.toList).map mkB) 0 [] = r at *
      unfold endF
      rcases hend with ⟨e1, e2⟩ | ⟨e1, e2⟩
      · rw [if_pos e1, e1, e2]
        have := eq_loop r.1 (by omega) r.1.length (2000 - (2 * r.1.length + 2)) 0 (by omega)
        rw [show 2 * r.1.length + 2 + (2000 - (2 * r.1.length + 2)) = 2000 from by omega] at this
        exact this
      · rw [if_neg (by rw [e1]; decide), e2, if_pos rfl, if_pos (show (([] : List S32).length : Int) = 0 from rfl), if_pos e1]
    | succ d ih => exact (gharrylaw25_SayScripts.mono_l (2 * s.size + 2003 + d)).2.1 _ _ _ _ _ _ _ _ _ ih
  have := up (3203 - (2 * s.size + 2003))
  rw [show 2 * s.size + 2003 + (3203 - (2 * s.size + 2003)) = 3203 from by omega] at this
  exact this
theorem SayScripts (a0 : ByteArray) : gharrylaw25_SayScripts.f 3204 a0 = some true := by
  have go : ∀ s : ByteArray, s.size ≤ 600 → gharrylaw25_SayScripts.j0 3204 s = some true := by
    intro s hs
    rcases scripts_text s hs with h | h
    · exact h
    · omega
  unfold gharrylaw25_SayScripts.f
  by_cases h : a0.size > 600
  · rw [if_pos (by omega), if_pos (by omega), if_pos (by omega)]
    exact go _ (by rw [ByteArray.size_extract]; omega)
  · rw [if_neg (by omega)]
    exact go _ (by omega)
end Go.Proofs.YtflbkgpmepfhlaaDoor.SayPure
