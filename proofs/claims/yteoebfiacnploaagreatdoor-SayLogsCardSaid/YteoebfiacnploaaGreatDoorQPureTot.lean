/- The reader, the writer, the sum and a record's functions answer at every text that is not too large. It proves no statement. -/
import Derived.Test.YteoebfiacnploaaGreatDoorQG12
import Derived.Test.YteoebfiacnploaaGreatDoorQHookRg
import Derived.Test.YteoebfiacnploaaGreatDoorQHookRh0
import Derived.Test.YteoebfiacnploaaGreatDoorQFsumSeal
namespace Go.Proofs.YteoebfiacnploaaGreatDoor.HRec
open Go.RowKit Go.Proofs.YteoebfiacnploaaGreatDoorW.PrintWords Go.Proofs.YteoebfiacnploaaGreatDoorW.PrintLast Go.Proofs.YteoebfiacnploaaGreatDoorW.PrintMore
set_option linter.unusedVariables false
set_option linter.unusedSimpArgs false
theorem w64 {n : Int} (h0 : -9223372036854775808 ≤ n) (h1 : n < 9223372036854775808) : wrap64 n = n := by unfold wrap64; omega
theorem empty_size : (⟨#[]⟩ : ByteArray).size = 0 := rfl
/-- A reader's state that can be. -/
def RdOk (s : ByteArray) (p : Int) : Prop := 0 ≤ p ∧ p ≤ s.size ∧ s.size ≤ 1000000
theorem raw_tot (s : ByteArray) (p e a : Int) (h : RdOk s p) : ∃ t p' e', pack_Reader_Raw.f s p e a = some (t, s, p', e') ∧ RdOk s p' ∧ t.size ≤ s.size ∧ (0 ≤ a → (t.size : Int) ≤ a) := by
  obtain ⟨h0, h1, hs⟩ := h
  unfold pack_Reader_Raw.f pack_Reader_off.f pack_Reader_fail.f
  simp only [Option.bind_some]
  by_cases he : e = 0
  · subst he
    rw [if_neg (by decide)]
    by_cases ha : a < 0
    · rw [if_pos ha, if_pos rfl]
      exact ⟨_, _, _, rfl, ⟨h0, h1, hs⟩, Nat.zero_le _, fun h => by omega⟩
    · rw [if_neg ha]
      have e1 : wrap64 ((s.size : Int) - p) = s.size - p := w64 (by omega) (by omega)
      rw [e1]
      by_cases hb : a > (s.size : Int) - p
      · rw [if_pos hb, if_pos rfl]
        exact ⟨_, _, _, rfl, ⟨h0, h1, hs⟩, Nat.zero_le _, fun h => by rw [empty_size]; omega⟩
      · have e2 : wrap64 (p + a) = p + a := w64 (by omega) (by omega)
        have e3 : wrap64 (p + a - a) = p := by rw [w64 (by omega) (by omega)]; omega
        rw [if_neg hb, e2, e3, if_pos h0, if_pos (by omega), if_pos (by omega)]
        refine ⟨_, _, _, rfl, ⟨by omega, by omega, hs⟩, ?_, fun h => ?_⟩
        · rw [ByteArray.size_extract]; omega
        · rw [ByteArray.size_extract]; omega
  · rw [if_pos (bne_iff_ne.mpr he)]
    exact ⟨_, _, _, rfl, ⟨h0, h1, hs⟩, Nat.zero_le _, fun h => by rw [empty_size]; omega⟩
theorem or_bytes : (List.range 256).all (fun n => decide (Go.bits .or .i64 (wrap64 (0 * 256)) (n : Nat) ≤ 255)) = true := by kernel_rfl
theorem or_byte (n : Nat) (h : n < 256) : Go.bits .or .i64 (wrap64 (0 * 256)) (n : Nat) ≤ 255 := of_decide_eq_true (List.all_eq_true.mp or_bytes n (List.mem_range.mpr h))
theorem num_tot (s : ByteArray) (p e a : Int) (h : RdOk s p) : ∃ n p' e', pack_Reader_Num.f s p e a = some (n, s, p', e') ∧ RdOk s p' ∧ (a = 1 → n ≤ 255) := by
  have hw : ∃ e0, widthF s p e a = (s, p, e0) := by
    unfold widthF
    by_cases hc : e = 0 ∧ (a < 1 ∨ 6 < a)
    · exact ⟨1, if_pos hc⟩
    · exact ⟨e, if_neg hc⟩
  obtain ⟨e0, hw⟩ := hw
  obtain ⟨t, p', e', hr, hp, ht, hl⟩ := raw_tot s p e0 a h
  unfold pack_Reader_Num.f
  rw [hw]
  dsimp only
  rw [hr, Option.bind_some]
  dsimp only
  rw [if_pos (by have := h.2.2; omega)]
  refine ⟨_, _, _, rfl, hp, fun h1 => ?_⟩
  have hl := hl (by omega)
  have hn : t.data.toList.length ≤ 1 := by
    have : t.data.toList.length = t.size := by rw [Array.length_toList]; rfl
    omega
  unfold numB
  match hd : t.data.toList, hn with
  | [], _ => show (0 : Int) ≤ 255; decide
  | [c], _ => exact or_byte c.toNat c.toNat_lt
theorem text_tot (k : Nat) (s : ByteArray) (p e a : Int) (h : RdOk s p) : ∃ t p' e', pack_Reader_Text.f (k + 1) s p e a = some (t, s, p', e') ∧ RdOk s p' := by
  obtain ⟨n, p1, e1, hn, h1, _⟩ := num_tot s p e 2 h
  unfold pack_Reader_Text.f pack_Reader_off.f
  rw [hn, Option.bind_some]
  dsimp only
  rw [Option.bind_some]
  dsimp only
  have go : ∀ b, ∃ t p' e', pack_Reader_Text.j0 (k + 1) n b s p1 e1 = some (t, s, p', e') ∧ RdOk s p' := by
    intro b
    unfold pack_Reader_Text.j0 pack_Reader_fail.f
    dsimp only
    cases b
    · obtain ⟨t, p2, e2, hr, h2, _⟩ := raw_tot s p1 e1 n h1
      rw [if_neg (by decide), hr, Option.bind_some]
      exact ⟨_, _, _, rfl, h2⟩
    · rw [if_pos rfl]
      by_cases he : e1 = 0
      · obtain ⟨t, p2, e2, hr, h2, _⟩ := raw_tot s p1 3 n h1
        rw [if_pos he, Option.bind_some]
        dsimp only
        rw [hr, Option.bind_some]
        exact ⟨_, _, _, rfl, h2⟩
      · obtain ⟨t, p2, e2, hr, h2, _⟩ := raw_tot s p1 e1 n h1
        rw [if_neg he, Option.bind_some]
        dsimp only
        rw [hr, Option.bind_some]
        exact ⟨_, _, _, rfl, h2⟩
  by_cases hb : (e1 != 0) = true
  · rw [if_pos hb]; exact go _
  · rw [if_neg hb]; exact go _
theorem textIf_tot (k : Nat) (yes : Bool) (old s : ByteArray) (p e most : Int) (h : RdOk s p) : ∃ t p' e', textIf (k + 1) yes old s p e most = some (t, s, p', e') ∧ RdOk s p' := by
  unfold textIf
  cases yes
  · exact ⟨_, _, _, rfl, h⟩
  · exact text_tot k s p e most h
theorem readChange_tot (k : Nat) (s : ByteArray) (p e act : Int) (o n : ByteArray) (h : RdOk s p) : ∃ x t1 t2 t3 p' e', rec_readChange.f (k + 1) s p e act o n = some (x, t1, t2, t3, s, p', e') ∧ RdOk s p' := by
  obtain ⟨n1, p1, e1, hn1, h1, _⟩ := num_tot s p e 2 h
  obtain ⟨t2, p2, e2, hn2, h2⟩ := text_tot k s p1 e1 16 h1
  obtain ⟨t3, p3, e3, hn3, h3⟩ := textIf_tot k (act != 3) o s p2 e2 32 h2
  obtain ⟨t4, p4, e4, hn4, h4⟩ := textIf_tot k (act != 4) n s p3 e3 32 h3
  unfold rec_readChange.f
  simp only [hn1, hn2, hn3, hn4, Option.bind_some]
  exact ⟨_, _, _, _, _, _, rfl, h4⟩
theorem readTable_l_tot : ∀ (n k : Nat) (x3 : List S36) (x5 x6 : Int) (s : ByteArray) (p e : Int), RdOk s p → 0 ≤ x6 → x5 ≤ 255 → (x5 - x6).toNat ≤ n → n + 1 ≤ k → x3.length + n ≤ 300 → ∃ l p' e', rec_readTable.l0 k x3 x5 x6 s p e = some (l, s, p', e') ∧ RdOk s p' ∧ l.length ≤ 300
  | n, 0, _, _, _, _, _, _, _, _, _, _, hk, _ => absurd hk (by omega)
  | n, k + 1, x3, x5, x6, s, p, e, h, h6, h5, hn, hk, hx => by
    unfold rec_readTable.l0
    by_cases hc : x6 < x5
    · rw [if_pos hc]
      obtain ⟨n1, p1, e1, hn1, h1, _⟩ := num_tot s p e 6 h
      obtain ⟨n2, p2, e2, hn2, h2, _⟩ := num_tot s p1 e1 6 h1
      rw [hn1, Option.bind_some]
      dsimp only
      rw [hn2, Option.bind_some]
      dsimp only
      rw [if_pos (by omega), w64 (by omega) (by omega)]
      match n, hn, hk, hx with
      | 0, hn, _, _ => exact absurd hn (by omega)
      | n + 1, hn, hk, hx => exact readTable_l_tot n k _ x5 (x6 + 1) s p2 e2 h2 (by omega) h5 (by omega) (by omega) (by rw [List.length_append]; simp only [List.length_cons, List.length_nil]; omega)
    · rw [if_neg hc]
      exact ⟨_, _, _, rfl, h, by omega⟩
theorem readTable_tot (s : ByteArray) (p e : Int) (h : RdOk s p) : ∃ l p' e', rec_readTable.f 300 s p e = some (l, s, p', e') ∧ RdOk s p' ∧ l.length ≤ 300 := by
  obtain ⟨n1, p1, e1, hn1, h1, hb⟩ := num_tot s p e 1 h
  have hb := hb rfl
  unfold rec_readTable.f
  rw [hn1, Option.bind_some]
  exact readTable_l_tot 255 300 [] n1 0 s p1 e1 h1 (by omega) hb (by omega) (by omega) (by simp)
theorem readImages_l_tot : ∀ (n k : Nat) (x3 : List S144) (x5 x6 : Int) (s : ByteArray) (p e : Int), RdOk s p → 0 ≤ x6 → x5 ≤ 255 → (x5 - x6).toNat ≤ n → n + 2 ≤ k → x3.length + n ≤ 300 → ∃ l p' e', rec_readImages.l0 k x3 x5 x6 s p e = some (l, s, p', e') ∧ RdOk s p' ∧ l.length ≤ 300
  | n, 0, _, _, _, _, _, _, _, _, _, _, hk, _ => absurd hk (by omega)
  | n, 1, _, _, _, _, _, _, _, _, _, _, hk, _ => absurd hk (by omega)
  | n, k + 2, x3, x5, x6, s, p, e, h, h6, h5, hn, hk, hx => by
    unfold rec_readImages.l0
    by_cases hc : x6 < x5
    · rw [if_pos hc]
      obtain ⟨n1, p1, e1, hn1, h1, _⟩ := num_tot s p e 2 h
      obtain ⟨t2, p2, e2, hn2, h2⟩ := text_tot k s p1 e1 224 h1
      rw [hn1, Option.bind_some]
      dsimp only
      rw [hn2, Option.bind_some]
      dsimp only
      unfold pack_Reader_Err.f
      rw [Option.bind_some]
      dsimp only
      by_cases he : e2 = 0
      · rw [if_pos he, if_pos (by omega), w64 (by omega) (by omega)]
        match n, hn, hk, hx with
        | 0, hn, _, _ => exact absurd hn (by omega)
        | n + 1, hn, hk, hx => exact readImages_l_tot n (k + 1) _ x5 (x6 + 1) s p2 e2 h2 (by omega) h5 (by omega) (by omega) (by rw [List.length_append]; simp only [List.length_cons, List.length_nil]; omega)
      · rw [if_neg he]
        exact ⟨_, _, _, rfl, h2, by simp⟩
    · rw [if_neg hc]
      exact ⟨_, _, _, rfl, h, by omega⟩
theorem readImages_tot (s : ByteArray) (p e : Int) (h : RdOk s p) : ∃ l p' e', rec_readImages.f 300 s p e = some (l, s, p', e') ∧ RdOk s p' ∧ l.length ≤ 300 := by
  obtain ⟨n1, p1, e1, hn1, h1, hb⟩ := num_tot s p e 1 h
  have hb := hb rfl
  unfold rec_readImages.f
  rw [hn1, Option.bind_some]
  exact readImages_l_tot 255 300 [] n1 0 s p1 e1 h1 (by omega) hb (by omega) (by omega) (by simp)
theorem End_tot (s : ByteArray) (p e : Int) : ∃ r p' e', pack_Reader_End.f s p e = some (r, s, p', e') := by
  unfold pack_Reader_End.f pack_Reader_Left.f pack_Reader_off.f pack_Reader_fail.f pack_Reader_Err.f
  simp only [Option.bind_some]
  split <;> simp only [Option.bind_some] <;> split <;> (try split) <;> (try simp only [Option.bind_some]) <;> exact ⟨_, _, _, rfl⟩
theorem put_l_tot : ∀ (n k : Nat) (x0 : ByteArray) (x1 x2 : Int) (x8 : List Int) (x29 x30 : Int), 0 ≤ x30 → x30 ≤ x29 → x2 = x29 → x29 = (x8.length : Int) → x2 ≤ 6 → (x29 - x30).toNat ≤ n → n + 1 ≤ k → x0.size ≤ 1000000000 → ∃ t, pack_Put.l0 k x0 x1 x2 x8 x29 x30 = some (t, 0) ∧ (t.size : Int) = x0.size + x2
  | n, 0, _, _, _, _, _, _, _, _, _, _, _, _, hk, _ => absurd hk (by omega)
  | n, k + 1, x0, x1, x2, x8, x29, x30, h0, h1, h2, h3, h4, hn, hk, hs => by
    unfold pack_Put.l0
    by_cases hc : x30 < x29
    · have e1 : wrap64 (x2 - 1) = x2 - 1 := w64 (by omega) (by omega)
      have e2 : wrap64 (x2 - 1 - x30) = x2 - 1 - x30 := w64 (by omega) (by omega)
      have e3 : wrap64 (8 * (x2 - 1 - x30)) = 8 * (x2 - 1 - x30) := w64 (by omega) (by omega)
      have e4 : wrap64 (x30 + 1) = x30 + 1 := w64 (by omega) (by omega)
      rw [if_pos hc, e1, e2, e3, e4, if_pos (by omega), if_pos h0, if_pos (by omega)]
      match n, hn, hk with
      | 0, hn, _ => exact absurd hn (by omega)
      | n + 1, hn, hk => exact put_l_tot n k x0 x1 x2 _ x29 (x30 + 1) (by omega) (by omega) h2 (by rw [List.length_set]; exact h3) h4 (by omega) (by omega) hs
    · rw [if_neg hc, strOfNums_size, if_pos (by omega)]
      refine ⟨_, rfl, ?_⟩
      rw [ByteArray.size_append, strOfNums_size]
      omega
theorem put_tot (k : Nat) (a0 : ByteArray) (a1 a2 : Int) (hk : 9 ≤ k) (hs : a0.size ≤ 1000000000) : ∃ t e, pack_Put.f k a0 a1 a2 = some (t, e) ∧ t.size ≤ a0.size + 6 ∧ (e = 0 → a2 = 1 → a1 < 256) := by
  obtain ⟨k, rfl⟩ : ∃ m, k = m + 1 := ⟨k - 1, by omega⟩
  unfold pack_Put.f
  by_cases h1 : a2 < 1
  · rw [if_pos h1]
    unfold pack_Put.j0
    dsimp only
    rw [if_pos rfl]
    exact ⟨_, _, rfl, Nat.zero_le _, fun h => absurd h (by decide)⟩
  · rw [if_neg h1]
    by_cases h6 : a2 > 6
    · rw [decide_eq_true h6]
      unfold pack_Put.j0
      dsimp only
      rw [if_pos rfl]
      exact ⟨_, _, rfl, Nat.zero_le _, fun h => absurd h (by decide)⟩
    · rw [decide_eq_false h6]
      unfold pack_Put.j0 pack_limit.f
      dsimp only
      rw [if_neg (by decide)]
      by_cases hn : a1 < 0
      · rw [if_pos hn]
        exact ⟨_, _, rfl, Nat.zero_le _, fun h => absurd h (by decide)⟩
      · have e1 : wrap64 (8 * a2) = 8 * a2 := w64 (by omega) (by omega)
        rw [if_neg hn, e1, if_pos (by omega), Option.bind_some]
        by_cases hg : a1 ≥ shl .i64 1 (8 * a2)
        · rw [if_pos hg]
          exact ⟨_, _, rfl, Nat.zero_le _, fun h => absurd h (by decide)⟩
        · rw [if_neg hg, if_pos (by omega), if_pos (by omega), Option.bind_some]
          obtain ⟨t, ht, hz⟩ := put_l_tot 6 k a0 a1 a2 (List.replicate a2.toNat 0) ((List.replicate a2.toNat (0 : Int)).length : Int) 0 (by omega) (by rw [List.length_replicate]; omega) (by rw [List.length_replicate]; omega) rfl (by omega) (by rw [List.length_replicate]; omega) (by omega) hs
          refine ⟨t, 0, ht, by omega, fun _ h => ?_⟩
          subst h
          have : shl .i64 1 (8 * 1) = 256 := by decide
          omega
theorem ptext_tot (k : Nat) (a0 a1 : ByteArray) (hk : 9 ≤ k) (hs : a0.size ≤ 1000000000) : ∃ t e, pack_Text.f k a0 a1 = some (t, e) ∧ t.size ≤ a0.size + 6 + 65536 ∧ t.size ≤ a0.size + 6 + a1.size := by
  have e1 : pack_limit.f 2 = some 65536 := by kernel_rfl
  unfold pack_Text.f
  rw [e1, Option.bind_some]
  by_cases hc : (a1.size : Int) ≥ 65536
  · rw [if_pos hc]
    exact ⟨_, _, rfl, by rw [empty_size]; omega, by rw [empty_size]; omega⟩
  · rw [if_neg hc]
    obtain ⟨t, e, ht, hz, _⟩ := put_tot k a0 (a1.size : Int) 2 hk hs
    rw [ht, Option.bind_some]
    dsimp only
    rw [if_pos (by omega)]
    refine ⟨_, _, rfl, ?_, ?_⟩ <;> rw [ByteArray.size_append] <;> omega
theorem wnum_tot (s : ByteArray) (e n width : Int) (hs : s.size ≤ 1000000000) : ∃ s' e', pack_Writer_Num.f s e n width = some (s', e') ∧ s'.size ≤ s.size + 6 ∧ (e ≠ 0 → s' = s ∧ e' = e) ∧ (e' = 0 → width = 1 → n < 256) := by
  unfold pack_Writer_Num.f layF
  by_cases he : e = 0
  · obtain ⟨t, e', ht, hz, h1⟩ := put_tot 20 s n width (by omega) hs
    rw [if_pos he, ht, Option.bind_some]
    dsimp only
    by_cases h0 : e' = 0
    · rw [if_pos h0]
      exact ⟨_, _, rfl, hz, fun h => absurd he h, fun _ hw => h1 h0 hw⟩
    · rw [if_neg h0]
      exact ⟨_, _, rfl, by rw [empty_size]; omega, fun h => absurd he h, fun h => absurd h h0⟩
  · rw [if_neg he]
    exact ⟨_, _, rfl, by omega, fun _ => ⟨rfl, rfl⟩, fun h => absurd h he⟩
theorem wtext_tot (s : ByteArray) (e : Int) (t : ByteArray) (hs : s.size ≤ 1000000000) : ∃ s' e', pack_Writer_Text.f s e t = some (s', e') ∧ s'.size ≤ s.size + 6 + 65536 ∧ s'.size ≤ s.size + 6 + t.size ∧ (e ≠ 0 → s' = s ∧ e' = e) := by
  unfold pack_Writer_Text.f layF
  by_cases he : e = 0
  · obtain ⟨t', e', ht, hz, hz2⟩ := ptext_tot 20 s t (by omega) hs
    rw [if_pos he, ht, Option.bind_some]
    dsimp only
    by_cases h0 : e' = 0
    · rw [if_pos h0]
      exact ⟨_, _, rfl, hz, hz2, fun h => absurd he h⟩
    · rw [if_neg h0]
      exact ⟨_, _, rfl, by rw [empty_size]; omega, by rw [empty_size]; omega, fun h => absurd he h⟩
  · rw [if_neg he]
    exact ⟨_, _, rfl, by omega, by omega, fun _ => ⟨rfl, rfl⟩⟩
theorem change_tot (s : ByteArray) (e x0 x1 x2 x3 x4 : Int) (k o n : ByteArray) (x8 : Int) (l9 : List S144) (l10 : List S36) (x11 x12 act : Int) (hs : s.size ≤ 1000000) : ∃ s' e', rec_change.f s e x0 x1 x2 x3 x4 k o n x8 l9 l10 x11 x12 act = some (s', e') := by
  unfold rec_change.f
  obtain ⟨s1, e1, h1, z1, _⟩ := wnum_tot s e x3 2 (by omega)
  obtain ⟨s2, e2, h2, z2, _⟩ := wtext_tot s1 e1 k (by omega)
  rw [h1, Option.bind_some]
  dsimp only
  rw [h2, Option.bind_some]
  dsimp only
  by_cases c3 : act = 3
  · rw [if_pos c3, if_neg (by omega)]
    obtain ⟨s3, e3, h3, z3, _⟩ := wtext_tot s2 e2 n (by omega)
    rw [h3, Option.bind_some]
    exact ⟨_, _, rfl⟩
  · rw [if_neg c3]
    obtain ⟨s3, e3, h3, z3, _⟩ := wtext_tot s2 e2 o (by omega)
    rw [h3, Option.bind_some]
    dsimp only
    by_cases c4 : act = 4
    · rw [if_pos c4]
      exact ⟨_, _, rfl⟩
    · rw [if_neg c4]
      obtain ⟨s4, e4, h4, z4, _⟩ := wtext_tot s3 e3 n (by omega)
      rw [h4, Option.bind_some]
      exact ⟨_, _, rfl⟩
theorem link_tot (s : ByteArray) (e x0 x1 x2 x3 x4 : Int) (k o n : ByteArray) (x8 : Int) (l9 : List S144) (l10 : List S36) (x11 x12 : Int) (hs : s.size ≤ 1000) : ∃ s' e', rec_link.f s e x0 x1 x2 x3 x4 k o n x8 l9 l10 x11 x12 = some (s', e') ∧ s'.size ≤ s.size + 12 := by
  unfold rec_link.f
  obtain ⟨s1, e1, h1, z1, _⟩ := wnum_tot s e x1 6 (by omega)
  obtain ⟨s2, e2, h2, z2, _⟩ := wnum_tot s1 e1 x2 6 (by omega)
  rw [h1, Option.bind_some]
  dsimp only
  rw [h2, Option.bind_some]
  exact ⟨_, _, rfl, by dsimp only; omega⟩
theorem cut_tot (k o n : ByteArray) : ∃ e, rec_cut.f 10 k [o, n] = some e := by
  have e1 : wrap64 (0 + 1) = 1 := by kernel_rfl
  have e2 : wrap64 (1 + 1) = 2 := by kernel_rfl
  unfold rec_cut.f
  split
  · exact ⟨_, rfl⟩
  · unfold rec_cut.l0
    rw [if_pos (by simp), if_pos (by decide), if_pos (by simp)]
    split
    · exact ⟨_, rfl⟩
    · rw [e1]
      unfold rec_cut.l0
      rw [if_pos (by simp), if_pos (by decide), if_pos (by simp)]
      split
      · exact ⟨_, rfl⟩
      · rw [e2]
        unfold rec_cut.l0
        rw [if_neg (by simp)]
        exact ⟨_, rfl⟩
theorem images_l_tot (l : List S144) (hl : l.length ≤ 9223372036854775807) : ∀ (n k : Nat) (i : Int) (s : ByteArray) (e : Int), 0 ≤ i → i ≤ l.length → ((l.length : Int) - i).toNat ≤ n → n + 1 ≤ k → (s.size ≤ 1000000000 ∧ (e ≠ 0 ∨ s.size + n * 300 ≤ 1000000000)) → ∃ r s' e', rec_images.l0 k l (l.length : Int) i s e = some (r, s', e')
  | n, 0, _, _, _, _, _, _, hk, _ => absurd hk (by omega)
  | n, k + 1, i, s, e, h0, h1, hn, hk, hs => by
    unfold rec_images.l0
    by_cases hc : i < (l.length : Int)
    · rw [if_pos hc, if_pos h0, if_pos hc]
      split
      · rename_i hz
        obtain ⟨s1, e1, q1, z1, d1, _⟩ := wnum_tot s e ((rd_T144 l i).f0) 2 hs.1
        obtain ⟨n, rfl⟩ : ∃ m, n = m + 1 := ⟨n - 1, by omega⟩
        · by_cases he : e = 0
          · have hb := hs.2.resolve_left (fun h => h he)
            obtain ⟨s2, e2, q2, z2, y2, d2⟩ := wtext_tot s1 e1 ((rd_T144 l i).f1) (by omega)
            rw [q1, Option.bind_some]
            dsimp only
            rw [q2, Option.bind_some]
            dsimp only
            rw [w64 (by omega) (by omega)]
            exact images_l_tot l hl n k (i + 1) s2 e2 (by omega) (by omega) (by omega) (by omega) ⟨by omega, .inr (by omega)⟩
          · obtain ⟨rfl, rfl⟩ := d1 he
            obtain ⟨s2, e2, q2, z2, y2, d2⟩ := wtext_tot s1 e1 ((rd_T144 l i).f1) hs.1
            obtain ⟨rfl, rfl⟩ := d2 he
            rw [q1, Option.bind_some]
            dsimp only
            rw [q2, Option.bind_some]
            dsimp only
            rw [w64 (by omega) (by omega)]
            exact images_l_tot l hl n k (i + 1) s2 e2 (by omega) (by omega) (by omega) (by omega) ⟨hs.1, .inl he⟩
      · exact ⟨_, _, _, rfl⟩
    · rw [if_neg hc]
      exact ⟨_, _, _, rfl⟩
theorem images_tot (s : ByteArray) (e : Int) (l : List S144) (hs : s.size ≤ 1000) (hl : l.length ≤ 9223372036854775807) : ∃ r s' e', rec_images.f (l.length + 5) s e l = some (r, s', e') := by
  unfold rec_images.f
  obtain ⟨s1, e1, h1, z1, d1, b1⟩ := wnum_tot s e (l.length : Int) 1 (by omega)
  rw [h1, Option.bind_some]
  refine images_l_tot l hl l.length (l.length + 5) 0 s1 e1 (by omega) (by omega) (by omega) (by omega) ⟨by omega, ?_⟩
  by_cases he : e1 = 0
  · have := b1 he rfl
    exact .inr (by omega)
  · exact .inl he
theorem tabF_tot : ∀ (l : List S36) (s : ByteArray) (e : Int), s.size ≤ 1000000000 → (e ≠ 0 ∨ s.size + l.length * 12 ≤ 1000000000) → ∃ s' e', tabF l s e = some (s', e')
  | [], s, e, _, _ => ⟨_, _, rfl⟩
  | a :: l, s, e, hs, h => by
    unfold tabF
    rw [List.length_cons] at h
    obtain ⟨s1, e1, q1, z1, d1, _⟩ := wnum_tot s e a.f0 6 hs
    by_cases he : e = 0
    · have h := h.resolve_left (fun h => h he)
      obtain ⟨s2, e2, q2, z2, d2, _⟩ := wnum_tot s1 e1 a.f1 6 (by omega)
      rw [q1, Option.bind_some]
      dsimp only
      rw [q2, Option.bind_some]
      exact tabF_tot l s2 e2 (by omega) (.inr (by omega))
    · obtain ⟨rfl, rfl⟩ := d1 he
      obtain ⟨s2, e2, q2, z2, d2, _⟩ := wnum_tot s1 e1 a.f1 6 hs
      obtain ⟨rfl, rfl⟩ := d2 he
      rw [q1, Option.bind_some]
      dsimp only
      rw [q2, Option.bind_some]
      exact tabF_tot l s2 e2 hs (.inl he)
theorem bodyTail_size (e : Int) (s : ByteArray) (f : Int) : (bodyTail e s f).1.size ≤ 4096 := by
  unfold bodyTail
  generalize (if e = 0 then f else e) = c
  by_cases h : c = 0
  · rw [if_pos h]
    by_cases h2 : s.size > 4096
    · rw [if_pos h2]; exact Nat.zero_le _
    · rw [if_neg h2]; exact Nat.not_lt.mp h2
  · rw [if_neg h]; exact Nat.zero_le _
theorem body_tot (x0 x1 x2 x3 x4 : Int) (k o n : ByteArray) (x8 : Int) (l9 : List S144) (l10 : List S36) (x11 x12 : Int) (h9 : l9.length ≤ 9223372036854775807) : ∃ s e, rec_body.f x0 x1 x2 x3 x4 k o n x8 l9 l10 x11 x12 = some (s, e) ∧ s.size ≤ 4096 := by
  unfold rec_body.f
  obtain ⟨s1, e1, q1, z1, _⟩ := wnum_tot ⟨#[]⟩ 0 x0 1 (by decide)
  rw [empty_size] at z1
  rw [q1, Option.bind_some]
  dsimp only
  split
  · split
    · obtain ⟨r, s2, e2, q2⟩ := images_tot s1 e1 l9 (by omega) h9
      rw [q2, Option.bind_some]
      exact ⟨_, _, rfl, bodyTail_size _ _ _⟩
    · exact ⟨_, _, rfl, by decide⟩
  split
  · obtain ⟨r, s2, e2, q2⟩ := images_tot s1 e1 l9 (by omega) h9
    rw [q2, Option.bind_some]
    exact ⟨_, _, rfl, bodyTail_size _ _ _⟩
  obtain ⟨ec, qc⟩ := cut_tot k o n
  obtain ⟨s2, e2, q2, z2⟩ := link_tot s1 e1 x0 x1 x2 x3 x4 k o n x8 l9 l10 x11 x12 (by omega)
  split
  · split
    · obtain ⟨s3, e3, q3, z3, _⟩ := wnum_tot s2 e2 x8 6 (by omega)
      obtain ⟨s4, e4, q4, z4, _⟩ := wnum_tot s3 e3 x4 1 (by omega)
      obtain ⟨s5, e5, q5⟩ := change_tot s4 e4 x0 x1 x2 x3 x4 k o n x8 l9 l10 x11 x12 x4 (by omega)
      simp only [qc, q2, q3, q4, q5, Option.bind_some]
      exact ⟨_, _, rfl, bodyTail_size _ _ _⟩
    · exact ⟨_, _, rfl, by decide⟩
  split
  · obtain ⟨s5, e5, q5⟩ := change_tot s2 e2 x0 x1 x2 x3 x4 k o n x8 l9 l10 x11 x12 x0 (by omega)
    simp only [qc, q2, q5, Option.bind_some]
    exact ⟨_, _, rfl, bodyTail_size _ _ _⟩
  split
  · rw [q2, Option.bind_some]
    exact ⟨_, _, rfl, bodyTail_size _ _ _⟩
  split
  · obtain ⟨s3, e3, q3, z3, d3, b3⟩ := wnum_tot s1 e1 (l10.length : Int) 1 (by omega)
    have hh : e3 ≠ 0 ∨ s3.size + l10.length * 12 ≤ 1000000000 := by
      by_cases he : e3 = 0
      · have := b3 he rfl
        exact .inr (by omega)
      · exact .inl he
    obtain ⟨s4, e4, q4⟩ := tabF_tot l10 s3 e3 (by omega) hh
    simp only [q3, q4, Option.bind_some]
    exact ⟨_, _, rfl, bodyTail_size _ _ _⟩
  split
  · obtain ⟨s3, e3, q3, z3, _⟩ := wnum_tot s1 e1 x11 4 (by omega)
    obtain ⟨s4, e4, q4, z4, _⟩ := wnum_tot s3 e3 x12 1 (by omega)
    simp only [q3, q4, Option.bind_some]
    exact ⟨_, _, rfl, bodyTail_size _ _ _⟩
  · exact ⟨_, _, rfl, by decide⟩
theorem ofTail_tot (s : ByteArray) (st : RdT) (x0 x1 x2 x3 x4 : Int) (k o n : ByteArray) (x8 : Int) (l9 : List S144) (l10 : List S36) (x11 x12 : Int) (h9 : l9.length ≤ 300) : ∃ y, ofTail s st x0 x1 x2 x3 x4 k o n x8 l9 l10 x11 x12 = some y := by
  unfold ofTail
  obtain ⟨r, p1, e1, q1⟩ := End_tot st.1 st.2.1 st.2.2
  rw [q1, Option.bind_some]
  dsimp only
  split
  · obtain ⟨t, e, q, _⟩ := body_tot x0 x1 x2 x3 x4 k o n x8 l9 l10 x11 x12 (by omega)
    rw [q, Option.bind_some]
    dsimp only
    split
    · split <;> exact ⟨_, rfl⟩
    · exact ⟨_, rfl⟩
  · exact ⟨_, rfl⟩
theorem Of_tot (s : ByteArray) (hs : s.size ≤ 1000000) : ∃ y, rec_Of.f s = some y := by
  unfold rec_Of.f
  obtain ⟨a, p1, e1, q1, h1, _⟩ := num_tot s 0 0 1 ⟨by omega, by omega, hs⟩
  rw [q1, Option.bind_some]
  dsimp only
  split
  · split
    · obtain ⟨l, p2, e2, q2, h2, z2⟩ := readImages_tot s p1 e1 h1
      rw [q2, Option.bind_some]
      exact ofTail_tot s _ _ _ _ _ _ _ _ _ _ _ _ _ _ z2
    split
    · obtain ⟨b, p2, e2, q2, h2, _⟩ := num_tot s p1 e1 6 h1
      obtain ⟨c, p3, e3, q3, h3, _⟩ := num_tot s p2 e2 6 h2
      obtain ⟨d, p4, e4, q4, h4, _⟩ := num_tot s p3 e3 6 h3
      obtain ⟨u, p5, e5, q5, h5, _⟩ := num_tot s p4 e4 1 h4
      obtain ⟨x, t1, t2, t3, p6, e6, q6, h6⟩ := readChange_tot 4 s p5 e5 u ⟨#[]⟩ ⟨#[]⟩ h5
      simp only [q2, q3, q4, q5, q6, Option.bind_some]
      exact ofTail_tot s _ _ _ _ _ _ _ _ _ _ _ _ _ _ (by simp)
    split
    · obtain ⟨b, p2, e2, q2, h2, _⟩ := num_tot s p1 e1 6 h1
      obtain ⟨c, p3, e3, q3, h3, _⟩ := num_tot s p2 e2 6 h2
      obtain ⟨x, t1, t2, t3, p6, e6, q6, h6⟩ := readChange_tot 4 s p3 e3 a ⟨#[]⟩ ⟨#[]⟩ h3
      simp only [q2, q3, q6, Option.bind_some]
      exact ofTail_tot s _ _ _ _ _ _ _ _ _ _ _ _ _ _ (by simp)
    split
    · obtain ⟨b, p2, e2, q2, h2, _⟩ := num_tot s p1 e1 6 h1
      obtain ⟨c, p3, e3, q3, h3, _⟩ := num_tot s p2 e2 6 h2
      simp only [q2, q3, Option.bind_some]
      exact ofTail_tot s _ _ _ _ _ _ _ _ _ _ _ _ _ _ (by simp)
    split
    · obtain ⟨l, p2, e2, q2, h2, z2⟩ := readTable_tot s p1 e1 h1
      rw [q2, Option.bind_some]
      exact ofTail_tot s _ _ _ _ _ _ _ _ _ _ _ _ _ _ (by simp)
    split
    · obtain ⟨b, p2, e2, q2, h2, _⟩ := num_tot s p1 e1 4 h1
      obtain ⟨c, p3, e3, q3, h3, _⟩ := num_tot s p2 e2 1 h2
      simp only [q2, q3, Option.bind_some]
      exact ofTail_tot s _ _ _ _ _ _ _ _ _ _ _ _ _ _ (by simp)
    · exact ofTail_tot s _ _ _ _ _ _ _ _ _ _ _ _ _ _ (by simp)
  · exact ⟨_, rfl⟩
theorem sumOpen_tot (a : ByteArray) (hs : a.size ≤ 1000000) : ∃ t e, sum_Open.f a = some (t, e) ∧ t.size ≤ a.size := by
  unfold sum_Open.f pack_Read.f sum_Sum.f
  split
  · exact ⟨_, _, rfl, Nat.zero_le _⟩
  · rename_i h
    obtain ⟨n, p1, e1, q1, h1, _⟩ := num_tot a 0 0 4 ⟨by omega, by omega, hs⟩
    have hz : (a.extract 4 a.size).size ≤ a.size := by rw [ByteArray.size_extract]; omega
    rw [Option.bind_some]
    dsimp only
    rw [q1, Option.bind_some, if_pos (by omega), if_pos (by omega), Option.bind_some]
    dsimp only
    split
    · exact ⟨_, _, rfl, hz⟩
    · exact ⟨_, _, rfl, Nat.zero_le _⟩
/-- How long a frame is that was found: it is at least 7, and it has room behind its place. -/
theorem Open_tot (s : ByteArray) (i : Int) (hs : s.size ≤ 1000000) : ∃ y, rec_Open.f 5 s i = some y ∧ (y.2.2.2.2.2.2.2.2.2.2.2.2.2.2 = 0 → 7 ≤ y.2.2.2.2.2.2.2.2.2.2.2.2.2.1 ∧ i + y.2.2.2.2.2.2.2.2.2.2.2.2.2.1 ≤ s.size) := by
  have no : ∀ {P : Prop} {c : Int}, c ≠ 0 → (c = 0 → P) := fun h h' => absurd h' h
  unfold rec_Open.f
  by_cases h0 : i < 0
  · rw [if_pos h0]
    unfold rec_Open.j0
    dsimp only
    rw [if_pos rfl]
    exact ⟨_, rfl, no (by decide)⟩
  · rw [if_neg h0]
    by_cases h1 : i > (s.size : Int)
    · rw [decide_eq_true h1]
      unfold rec_Open.j0
      dsimp only
      rw [if_pos rfl]
      exact ⟨_, rfl, no (by decide)⟩
    · rw [decide_eq_false h1]
      unfold rec_Open.j0 pack_Read.f
      dsimp only
      rw [if_neg (by decide), if_pos (by omega), if_pos (by omega)]
      have hz : ((s.extract i.toNat s.size).size : Int) = s.size - i := by rw [ByteArray.size_extract]; omega
      generalize s.extract i.toNat s.size = t at *
      split
      · exact ⟨_, rfl, no (by decide)⟩
      · rename_i h6
        obtain ⟨n, p1, e1, q1, _⟩ := num_tot t 0 0 2 ⟨by omega, by omega, by omega⟩
        rw [Option.bind_some]
        dsimp only
        rw [q1, Option.bind_some]
        dsimp only
        by_cases hn : n < 1
        · rw [if_pos hn]
          unfold rec_Open.j1
          dsimp only
          rw [if_pos rfl]
          exact ⟨_, rfl, no (by decide)⟩
        · rw [if_neg hn]
          by_cases hm : n > 4096
          · rw [decide_eq_true hm]
            unfold rec_Open.j1
            dsimp only
            rw [if_pos rfl]
            exact ⟨_, rfl, no (by decide)⟩
          · rw [decide_eq_false hm]
            unfold rec_Open.j1
            dsimp only
            rw [if_neg (by decide), w64 (by omega) (by omega), w64 (n := 6 + n) (by omega) (by omega)]
            split
            · exact ⟨_, rfl, no (by decide)⟩
            · rw [if_pos (by omega), if_pos (by omega)]
              obtain ⟨b, e2, q2, z2⟩ := sumOpen_tot (t.extract 2 (6 + n).toNat) (by rw [ByteArray.size_extract]; omega)
              rw [ByteArray.size_extract] at z2
              rw [q2, Option.bind_some]
              dsimp only
              split
              · obtain ⟨y, qy⟩ := Of_tot b (by omega)
                rw [qy, Option.bind_some]
                split
                · exact ⟨_, rfl, fun _ => ⟨by dsimp only; omega, by dsimp only; omega⟩⟩
                · rename_i hy
                  exact ⟨_, rfl, no hy⟩
              · rename_i hy
                exact ⟨_, rfl, no hy⟩
theorem Seal_tot (k : Nat) (a : ByteArray) (hk : 9 ≤ k) (hs : a.size ≤ 4096) : ∃ t, sum_Seal.f k a = some t ∧ t.size ≤ a.size + 6 := by
  unfold sum_Seal.f sum_Sum.f
  rw [if_pos (by omega), Option.bind_some]
  obtain ⟨t, e, q, z, _⟩ := put_tot k ⟨#[]⟩ (Go.bits .xor .u32 (sumRun 4294967295 a a.size) 4294967295) 4 hk (by decide)
  rw [empty_size] at z
  rw [q, Option.bind_some]
  dsimp only
  rw [if_pos (by omega)]
  refine ⟨_, rfl, ?_⟩
  rw [ByteArray.size_append]
  omega
end Go.Proofs.YteoebfiacnploaaGreatDoor.HRec
