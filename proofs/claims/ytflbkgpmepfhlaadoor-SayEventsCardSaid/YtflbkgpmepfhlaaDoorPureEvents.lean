/- The plain law of SayEvents: an event's line. -/
import Derived.Test.YtflbkgpmepfhlaaDoorPureBack
import Derived.Test.YtflbkgpmepfhlaaDoorFsayEvent
import Derived.Test.YtflbkgpmepfhlaaDoorFgharrylaw25event
namespace Go.Proofs.YtflbkgpmepfhlaaDoor.SayPure
open Go.RowKit Go.Proofs.YtflbkgpmepfhlaaDoor.HSay Go.Proofs.YtflbkgpmepfhlaaDoor.Hook Go.Proofs.YtflbkgpmepfhlaaDoorW.PrintWords
set_option linter.unusedVariables false
theorem number_in' (n : Int) (h0 : 0 ≤ n) (h1 : n < 18446744073709551616) : gharryref25_Number.f n = some (decB n) := by
  unfold gharryref25_Number.f
  rw [if_pos ⟨h0, h1⟩]
  rfl
def lowB (a : Int) : ByteArray := decB (IntKind.u64.wrap (mx a 0))
theorem wrap_range (a : Int) : 0 ≤ IntKind.u64.wrap a ∧ IntKind.u64.wrap a < 18446744073709551616 := by rw [u64w]; omega
theorem lowB_size (a : Int) : (lowB a).size ≤ 20 := decB_size _ (wrap_range _).2
theorem low_say (a : Int) : say_digits.f (IntKind.u64.wrap (mx a 0)) = some (lowB a) := digits_in _ (wrap_range _).1 (wrap_range _).2
theorem low_law (a : Int) : gharrylaw25_low.f a = some (lowB a) := by
  unfold gharrylaw25_low.f lowB mx
  by_cases h : a < 0
  · rw [if_pos h, if_pos h, number_in' 0 (by omega) (by omega), Option.bind_some]
    rfl
  · rw [if_neg h, if_neg h, number_in' _ (wrap_range _).1 (wrap_range _).2, Option.bind_some]
def cellW (l : List S52) : List ByteArray := l.flatMap fun c => [mkW c.f0, mkW c.f1]
def okC (l : List S52) : Prop := l.length ≤ 20 ∧ ∀ c ∈ l, c.f0.size ≤ 50 ∧ c.f1.size ≤ 50
theorem rd_cell (l : List S52) (i : Nat) (hi : i < l.length) : rd_T52 l (i : Int) = l[i] := by
  unfold rd_T52
  rw [Int.toNat_natCast, List.getD_eq_getElem?_getD, List.getElem?_eq_getElem hi]
  rfl
theorem cells_say (l : List S52) (hc : okC l) : ∀ (n K i : Nat) (acc : List ByteArray), i + n = l.length → acc.length + 2 * n ≤ 1000 →
    say_Event.l0 (n + K + 1) acc l (l.length : Int) (i : Int) = strings_Join.f (acc ++ cellW (l.drop i)) ⟨#[32]⟩ := by
  intro n
  induction n with
  | zero =>
    intro K i acc hi ha
    rw [show 0 + K + 1 = K + 1 from by omega, say_Event.l0, if_neg (by omega), List.drop_eq_nil_of_le (by omega)]
    show (strings_Join.f acc ⟨#[32]⟩).bind (fun t => some t) = strings_Join.f (acc ++ []) ⟨#[32]⟩
    rw [List.append_nil]
    cases strings_Join.f acc ⟨#[32]⟩ <;> rfl
  | succ n ih =>
    intro K i acc hi ha
    have hil : i < l.length := by omega
    have hlen := hc.1
    obtain ⟨h1, h2⟩ := hc.2 l[i] (List.getElem_mem hil)
    rw [show n + 1 + K + 1 = (n + K + 1) + 1 from by omega, say_Event.l0, if_pos (by omega), if_pos (by omega), if_pos (by omega), rd_cell l i hil, sayWord_f (by omega), Option.bind_some, sayWord_f (by omega), Option.bind_some, Option.bind_some, if_pos (by simp; omega), wrap64_of _ (by omega) (by omega)]
    have := ih K (i + 1) (acc ++ [mkW l[i].f0, mkW l[i].f1]) (by omega) (by simp; omega)
    rw [show ((i + 1 : Nat) : Int) = (i : Int) + 1 from by omega] at this
    rw [this]
    have hd : l.drop i = l[i] :: l.drop (i + 1) := List.drop_eq_getElem_cons hil
    congr 1
    rw [hd]
    unfold cellW
    rw [List.flatMap_cons, List.append_assoc]
section
variable (a b c d : Int) (f g : ByteArray) (h o : Bool) (e : Int) (p : Bool) (q : Int) (m1 m2 m3 m4 m5 : Int)
theorem cells_law (l : List S52) (hc : okC l) : ∀ (n K i : Nat) (acc : ByteArray), i + n = l.length → acc.size + 1000 * n ≤ 1000000 →
    gharrylaw25_event.l0 (n + K + 1) acc (i : Int) a b c d f g h o e p q l m1 m2 m3 m4 m5 = some (joinT acc (cellW (l.drop i))) := by
  intro n
  induction n with
  | zero =>
    intro K i acc hi ha
    rw [show 0 + K + 1 = K + 1 from by omega, gharrylaw25_event.l0, if_neg (by omega), List.drop_eq_nil_of_le (by omega)]
    rfl
  | succ n ih =>
    intro K i acc hi ha
    have hil : i < l.length := by omega
    have hlen := hc.1
    obtain ⟨h1, h2⟩ := hc.2 l[i] (List.getElem_mem hil)
    have s1 := mkW_size l[i].f0
    have s2 := mkW_size l[i].f1
    have hone : (⟨#[32]⟩ : ByteArray).size = 1 := rfl
    rw [show n + 1 + K + 1 = (n + K + 1) + 1 from by omega, gharrylaw25_event.l0, if_pos (by omega), if_pos (by omega), if_pos (by omega), rd_cell l i hil, refWord_f (by omega), Option.bind_some, if_pos (by rw [size_join, hone]; omega), if_pos (by rw [size_join, size_join, hone]; omega), refWord_f (by omega), Option.bind_some, if_pos (by rw [size_join, size_join, size_join, hone]; omega), wrap64_of _ (by omega) (by omega), List.drop_eq_getElem_cons hil]
    have := ih K (i + 1) ((((acc ++ ⟨#[32]⟩) ++ mkW l[i].f0) ++ ⟨#[32]⟩) ++ mkW l[i].f1) (by omega) (by rw [size_join, size_join, size_join, size_join, hone]; omega)
    rw [show ((i + 1 : Nat) : Int) = (i : Int) + 1 from by omega] at this
    rw [this]
    rfl
/-- The words of an event's line behind the first. -/
def stateW : List ByteArray := if o = true then (if e = 0 then [⟨#[111, 107]⟩] else [⟨#[101, 114, 114, 111, 114]⟩, lowB e]) else [⟨#[119, 97, 105, 116, 115]⟩]
def foundW : List ByteArray := if p = true then [mkW g] else []
def firstW : ByteArray := if 1 ≤ a ∧ a ≤ 21 then wd a else ⟨#[110, 111, 110, 101]⟩
theorem join_append : ∀ (xs ys : List ByteArray) (acc : ByteArray), joinT acc (xs ++ ys) = joinT (joinT acc xs) ys := by
  intro xs ys acc
  unfold joinT
  rw [List.foldl_append]
/-- An event's line. -/
def eventB (l : List S52) : ByteArray := joinT (firstW a) (lowB c :: (stateW o e ++ (foundW g p ++ cellW l)))
set_option maxRecDepth 4000 in
theorem event_law (l : List S52) (hc : okC l) (hg : g.size ≤ 300) : gharrylaw25_event.f 100 a b c d f g h o e p q l m1 m2 m3 m4 m5 = some (eventB a c g o e p l) := by
  have hone : (⟨#[32]⟩ : ByteArray).size = 1 := rfl
  have hlc := lowB_size c
  have hle := lowB_size e
  have hmg := mkW_size g
  have hll := hc.1
  have s3 : ∀ (acc : ByteArray), acc.size ≤ 900000 → gharrylaw25_event.j3 96 acc a b c d f g h o e p q l m1 m2 m3 m4 m5 = some (joinT acc (cellW l)) := by
    intro acc ha
    rw [show (96 : Nat) = 95 + 1 from rfl, gharrylaw25_event.j3]
    have := cells_law a b c d f g h o e p q m1 m2 m3 m4 m5 l hc l.length (95 - 1 - l.length) 0 acc (by omega) (by omega)
    rw [show l.length + (95 - 1 - l.length) + 1 = 95 from by omega, List.drop_zero] at this
    exact this
  have s2 : ∀ (acc : ByteArray), acc.size ≤ 800000 → gharrylaw25_event.j2 97 acc a b c d f g h o e p q l m1 m2 m3 m4 m5 = some (joinT acc (foundW g p ++ cellW l)) := by
    intro acc ha
    rw [show (97 : Nat) = 96 + 1 from rfl, gharrylaw25_event.j2]
    by_cases hp : p = true
    · have hcut : gharrylaw25_cut.f g = some g := by rw [cut_f]; unfold cutB; rw [if_neg (by omega)]
      rw [if_pos hp, if_pos (by omega), hcut, Option.bind_some, refWord_f (by omega), Option.bind_some, if_pos (by rw [size_join, hone]; omega), s3 _ (by rw [size_join, size_join, hone]; omega)]
      unfold foundW
      rw [if_pos hp]
      rfl
    · rw [if_neg hp, s3 _ (by omega)]
      unfold foundW
      rw [if_neg hp]
      rfl
  have s1 : ∀ (acc : ByteArray), acc.size ≤ 700000 → gharrylaw25_event.j1 98 acc a b c d f g h o e p q l m1 m2 m3 m4 m5 = some (joinT acc (lowB c :: (stateW o e ++ (foundW g p ++ cellW l)))) := by
    intro acc ha
    rw [show (98 : Nat) = 97 + 1 from rfl, gharrylaw25_event.j1, if_pos (by omega), low_law, Option.bind_some, if_pos (by rw [size_join, hone]; omega)]
    have hok : (⟨#[32, 111, 107]⟩ : ByteArray).size = 3 := rfl
    have herr : (⟨#[32, 101, 114, 114, 111, 114, 32]⟩ : ByteArray).size = 7 := rfl
    have hwt : (⟨#[32, 119, 97, 105, 116, 115]⟩ : ByteArray).size = 6 := rfl
    have hsz : ((acc ++ (⟨#[32]⟩ : ByteArray)) ++ lowB c).size ≤ 700021 := by rw [size_join, size_join, hone]; omega
    show _ = some (joinT ((acc ++ (⟨#[32]⟩ : ByteArray)) ++ lowB c) (stateW o e ++ (foundW g p ++ cellW l)))
    generalize (acc ++ (⟨#[32]⟩ : ByteArray)) ++ lowB c = z at *
    have hsplit : ∀ (x y : ByteArray), (⟨#[32]⟩ : ByteArray) ++ y = x → z ++ x = (z ++ ⟨#[32]⟩) ++ y := by
      intro x y hxy
      rw [← hxy, append_assoc']
    by_cases ho : o = true
    · rw [if_pos ho]
      by_cases he : e = 0
      · rw [if_pos he, if_pos (by omega), s2 _ (by rw [size_join, hok]; omega)]
        unfold stateW
        rw [if_pos ho, if_pos he, hsplit ⟨#[32, 111, 107]⟩ ⟨#[111, 107]⟩ (by decide +kernel)]
        rfl
      · rw [if_neg he, if_pos (by omega), low_law, Option.bind_some, if_pos (by rw [size_join, herr]; omega), s2 _ (by rw [size_join, size_join, herr]; omega)]
        unfold stateW
        rw [if_pos ho, if_neg he]
        have : z ++ (⟨#[32, 101, 114, 114, 111, 114, 32]⟩ : ByteArray) = ((z ++ ⟨#[32]⟩) ++ ⟨#[101, 114, 114, 111, 114]⟩) ++ ⟨#[32]⟩ := by
          rw [append_assoc', append_assoc', ← append_assoc' ⟨#[32]⟩]
          congr 1
        rw [this]
        rfl
    · rw [if_neg ho, if_pos (by omega), s2 _ (by rw [size_join, hwt]; omega)]
      unfold stateW
      rw [if_neg ho, hsplit ⟨#[32, 119, 97, 105, 116, 115]⟩ ⟨#[119, 97, 105, 116, 115]⟩ (by decide +kernel)]
      rfl
  have s0n : gharrylaw25_event.j0 100 (⟨#[110, 111, 110, 101]⟩ : ByteArray) false a b c d f g h o e p q l m1 m2 m3 m4 m5 = some (joinT ⟨#[110, 111, 110, 101]⟩ (lowB c :: (stateW o e ++ (foundW g p ++ cellW l)))) := by
    rw [show (100 : Nat) = 99 + 1 from rfl, gharrylaw25_event.j0, if_neg (by simp)]
    refine ((gharrylaw25_event.mono_l 98).2.1 _ _ _ _ _ _ _ _ _ _ _ _ _ _ _ _ _ _ _ (s1 _ ?_))
    decide
  unfold gharrylaw25_event.f eventB firstW
  by_cases h1 : a ≥ 1
  · rw [if_pos h1]
    by_cases h2 : a ≤ 21
    · rw [decide_eq_true h2, if_pos ⟨h1, h2⟩, show (100 : Nat) = 99 + 1 from rfl, gharrylaw25_event.j0, if_pos rfl, words_f, Option.bind_some]
      have hwl : (wordsB.length : Int) = 22 := by decide
      obtain ⟨_, _, _, _, hwd⟩ := table a h1 h2
      rw [if_pos (by omega), if_pos (by omega)]
      exact (gharrylaw25_event.mono_l 98).2.1 _ _ _ _ _ _ _ _ _ _ _ _ _ _ _ _ _ _ _ (s1 (wd a) (by omega))
    · rw [decide_eq_false h2, if_neg (by omega)]
      exact s0n
  · rw [if_neg h1, if_neg (by omega)]
    exact s0n
theorem join_f (w : ByteArray) (r : List ByteArray) (m : Nat) (hm : ∀ x ∈ r, x.size ≤ m) (hs : w.size + (m + 1) * r.length ≤ 1000000) (hr : r.length ≤ 1000) : strings_Join.f (w :: r) ⟨#[32]⟩ = some (joinT w r) := by
  have hj : Lib.join ((w :: r).map (·.data.toList)) (⟨#[32]⟩ : ByteArray).data.toList = (joinT w r).data.toList := by
    rw [List.map_cons, Lib.join_cons, join_list]
    congr 1
  have hsz := join_size r w m hm
  unfold strings_Join.f
  rw [hj, if_pos (by rw [size_list, List.length_cons]; omega)]
set_option maxRecDepth 4000 in
theorem event_say (l : List S52) (hc : okC l) (hg : g.size ≤ 300) : say_Event.f 100 a b c d f g h o e p q l m1 m2 m3 m4 m5 = some (eventB a c g o e p l) := by
  have hmg := mkW_size g
  have hll := hc.1
  have hcells : ∀ x ∈ cellW l, x.size ≤ 1000 := by
    intro x hx
    unfold cellW at hx
    obtain ⟨y, hy, hx⟩ := List.mem_flatMap.1 hx
    obtain ⟨h1, h2⟩ := hc.2 y hy
    have s1 := mkW_size y.f0
    have s2 := mkW_size y.f1
    simp only [List.mem_cons, List.mem_nil_iff, or_false] at hx
    rcases hx with rfl | rfl <;> omega
  have hcl : (cellW l).length ≤ 40 := by
    have : ∀ l : List S52, (cellW l).length = 2 * l.length := by
      intro l
      induction l with
      | nil => rfl
      | cons x l ih =>
        have : cellW (x :: l) = [mkW x.f0, mkW x.f1] ++ cellW l := by unfold cellW; rw [List.flatMap_cons]
        rw [this, List.length_append, ih]
        simp
        omega
    rw [this]
    omega
  have hst : ∀ x ∈ stateW o e, x.size ≤ 1000 := by
    intro x hx
    have := lowB_size e
    unfold stateW at hx
    have k1 : (⟨#[111, 107]⟩ : ByteArray).size = 2 := rfl
    have k2 : (⟨#[101, 114, 114, 111, 114]⟩ : ByteArray).size = 5 := rfl
    have k3 : (⟨#[119, 97, 105, 116, 115]⟩ : ByteArray).size = 5 := rfl
    split at hx
    · split at hx
      · simp only [List.mem_cons, List.mem_nil_iff, or_false] at hx
        rw [hx]; omega
      · simp only [List.mem_cons, List.mem_nil_iff, or_false] at hx
        rcases hx with rfl | rfl <;> omega
    · simp only [List.mem_cons, List.mem_nil_iff, or_false] at hx
      rw [hx]; omega
  have hsl : (stateW o e).length ≤ 2 := by unfold stateW; split <;> (try split) <;> simp
  have hfd : ∀ x ∈ foundW g p, x.size ≤ 1000 := by
    intro x hx
    unfold foundW at hx
    split at hx
    · simp only [List.mem_cons, List.mem_nil_iff, or_false] at hx
      rw [hx]; omega
    · simp at hx
  have hfl : (foundW g p).length ≤ 1 := by unfold foundW; split <;> simp
  have s2 : ∀ (acc : List ByteArray), acc.length ≤ 900 → say_Event.j2 97 acc a b c d f g h o e p q l m1 m2 m3 m4 m5 = strings_Join.f (acc ++ cellW l) ⟨#[32]⟩ := by
    intro acc ha
    rw [show (97 : Nat) = 96 + 1 from rfl, say_Event.j2]
    have := cells_say l hc l.length (96 - 1 - l.length) 0 acc (by omega) (by omega)
    rw [show l.length + (96 - 1 - l.length) + 1 = 96 from by omega, List.drop_zero] at this
    exact this
  have s1 : ∀ (acc : List ByteArray), acc.length ≤ 800 → say_Event.j1 98 acc a b c d f g h o e p q l m1 m2 m3 m4 m5 = strings_Join.f (acc ++ (foundW g p ++ cellW l)) ⟨#[32]⟩ := by
    intro acc ha
    rw [show (98 : Nat) = 97 + 1 from rfl, say_Event.j1]
    unfold foundW
    by_cases hp : p = true
    · rw [if_pos hp, if_pos hp, sayWord_f (by omega), Option.bind_some, if_pos (by omega), s2 _ (by simp; omega), List.append_assoc]
    · rw [if_neg hp, if_neg hp, s2 _ (by omega)]
      rfl
  have s0 : ∀ w : ByteArray, w.size ≤ 100 → say_Event.j0 99 w a b c d f g h o e p q l m1 m2 m3 m4 m5 = some (joinT w (lowB c :: (stateW o e ++ (foundW g p ++ cellW l)))) := by
    intro w hw
    have hlc := lowB_size c
    have fin : strings_Join.f ([w, lowB c] ++ (stateW o e ++ (foundW g p ++ cellW l))) ⟨#[32]⟩ = some (joinT w (lowB c :: (stateW o e ++ (foundW g p ++ cellW l)))) := by
      refine join_f w (lowB c :: (stateW o e ++ (foundW g p ++ cellW l))) 1000 ?_ ?_ ?_
      · intro x hx
        rcases List.mem_cons.1 hx with rfl | hx
        · omega
        rcases List.mem_append.1 hx with hx | hx
        · exact hst x hx
        rcases List.mem_append.1 hx with hx | hx
        · exact hfd x hx
        · exact hcells x hx
      · simp only [List.length_cons, List.length_append]; omega
      · simp only [List.length_cons, List.length_append]; omega
    rw [show (99 : Nat) = 98 + 1 from rfl, say_Event.j0, low_say, Option.bind_some, Option.bind_some, ← fin]
    unfold stateW
    by_cases ho : o = true
    · rw [if_pos ho, if_pos ho]
      by_cases he : e = 0
      · rw [if_pos he, if_pos he, if_pos (by simp), s1 _ (by simp)]
        rfl
      · rw [if_neg he, if_neg he, low_say, Option.bind_some, Option.bind_some, if_pos (by simp), s1 _ (by simp)]
        rfl
    · rw [if_neg ho, if_neg ho, if_pos (by simp), s1 _ (by simp)]
      rfl
  have up : ∀ w : ByteArray, w.size ≤ 100 → say_Event.j0 100 w a b c d f g h o e p q l m1 m2 m3 m4 m5 = some (joinT w (lowB c :: (stateW o e ++ (foundW g p ++ cellW l)))) := fun w hw => (say_Event.mono_l 99).1 _ _ _ _ _ _ _ _ _ _ _ _ _ _ _ _ _ _ _ (s0 w hw)
  unfold say_Event.f eventB firstW
  by_cases hr : 1 ≤ a ∧ a ≤ 21
  · obtain ⟨z, _, hl, _, hwd⟩ := table a hr.1 hr.2
    rw [if_pos hr, hl, Option.bind_some, if_neg (word_ne a hr.1 hr.2)]
    exact up (wd a) (by omega)
  · rw [if_neg hr, form_other a (by omega), Option.bind_some, if_pos (by rw [bytes_toList])]
    exact up _ (by decide)
end
end Go.Proofs.YtflbkgpmepfhlaaDoor.SayPure
