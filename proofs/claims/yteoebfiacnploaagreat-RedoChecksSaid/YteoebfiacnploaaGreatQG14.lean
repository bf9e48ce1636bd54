/- Texts of this proof, put together: PureOfC, PureFrame. They prove no statement. -/
import Derived.Test.YteoebfiacnploaaGreatQG13
import Derived.Test.YteoebfiacnploaaGreatQG11
namespace Go.Proofs.YteoebfiacnploaaGreat.HRec
open Go.RowKit Go.Proofs.YteoebfiacnploaaGreatW.PrintWords Go.Proofs.YteoebfiacnploaaGreatW.PrintLast Go.Proofs.YteoebfiacnploaaGreatW.PrintMore
set_option linter.unusedVariables false
set_option linter.unusedSimpArgs false
theorem change_alive {s : ByteArray} {e x0 x1 x2 x3 x4 : Int} {k o n : ByteArray} {x8 : Int} {l9 : List S144} {l10 : List S36} {x11 x12 act : Int} {t : ByteArray} (h : rec_change.f s e x0 x1 x2 x3 x4 k o n x8 l9 l10 x11 x12 act = some (t, 0)) : e = 0 := by
  unfold rec_change.f at h
  obtain ⟨⟨s1, e1⟩, q1, h⟩ := Option.bind_eq_some_iff.mp h
  dsimp only at h
  obtain ⟨⟨s2, e2⟩, q2, h⟩ := Option.bind_eq_some_iff.mp h
  dsimp only at h
  have fin : e2 = 0 → e = 0 := by
    intro h0
    subst h0
    have r := wtext_alive q2
    subst r
    exact wnum_alive q1
  by_cases c3 : act = 3
  · rw [if_pos c3, if_neg (by omega)] at h
    obtain ⟨⟨s3, e3⟩, q3, h⟩ := Option.bind_eq_some_iff.mp h
    simp only [Option.some.injEq, Prod.mk.injEq] at h
    obtain ⟨rfl, rfl⟩ := h
    exact fin (wtext_alive q3)
  · rw [if_neg c3] at h
    obtain ⟨⟨s3, e3⟩, q3, h⟩ := Option.bind_eq_some_iff.mp h
    dsimp only at h
    by_cases c4 : act = 4
    · rw [if_pos c4] at h
      simp only [Option.some.injEq, Prod.mk.injEq] at h
      obtain ⟨rfl, rfl⟩ := h
      exact fin (wtext_alive q3)
    · rw [if_neg c4] at h
      obtain ⟨⟨s4, e4⟩, q4, h⟩ := Option.bind_eq_some_iff.mp h
      simp only [Option.some.injEq, Prod.mk.injEq] at h
      obtain ⟨rfl, rfl⟩ := h
      have r := wtext_alive q4
      subst r
      exact fin (wtext_alive q3)
theorem back_345 (K : Int) (hK : K = 3 ∨ K = 4 ∨ K = 5) (x1 x2 x3 : Int) (k o n : ByteArray) (ho : K = 3 → o = ⟨#[]⟩) (hn : K = 4 → n = ⟨#[]⟩) (s : ByteArray) (h : rec_body.f K x1 x2 x3 0 k o n 0 [] [] 0 0 = some (s, 0)) : rec_Of.f s = some (K, x1, x2, x3, 0, k, o, n, 0, [], [], 0, 0, 0) := by
  have hb := h
  unfold rec_body.f at h
  obtain ⟨⟨s1, e1⟩, q1, h⟩ := Option.bind_eq_some_iff.mp h
  dsimp only at h
  rw [if_neg (by omega), if_neg (by omega), if_neg (by omega), if_pos hK] at h
  obtain ⟨ec, qc, h⟩ := Option.bind_eq_some_iff.mp h
  obtain ⟨⟨s2, e2⟩, q2, h⟩ := Option.bind_eq_some_iff.mp h
  dsimp only at h
  obtain ⟨⟨s3, e3⟩, q3, h⟩ := Option.bind_eq_some_iff.mp h
  simp only [Option.some.injEq] at h
  obtain ⟨rfl, rfl, rfl, hz⟩ := bodyTail_val h
  obtain ⟨c1, c2, c3⟩ := cut_val qc
  have r := change_alive q3
  subst r
  obtain ⟨a1, b1, g1, d1, _⟩ := wnum_tot ⟨#[]⟩ 0 K 1 (by decide)
  rw [q1] at g1
  simp only [Option.some.injEq, Prod.mk.injEq] at g1
  obtain ⟨rfl, rfl⟩ := g1
  rw [empty_size] at d1
  obtain ⟨a2, b2, g2, d2⟩ := link_tot s1 e1 K x1 x2 x3 0 k o n 0 [] [] 0 0 (by omega)
  rw [q2] at g2
  simp only [Option.some.injEq, Prod.mk.injEq] at g2
  obtain ⟨rfl, hg⟩ := g2
  obtain ⟨_, p0, p1, _, _, _, hs⟩ := change_val (by omega) q3
  obtain ⟨rfl, a, b, rfl, rfl, ha, hb2, hs2⟩ := link_val (by omega) q2
  obtain ⟨m, rfl, hm, rfl⟩ := first_val q1 rfl
  rw [hs2] at hs
  have w := At_of hs
  obtain ⟨w, w5⟩ := At_app w
  obtain ⟨w, w4⟩ := At_app w
  obtain ⟨w, w3⟩ := At_app w
  obtain ⟨w, w2⟩ := At_app w
  obtain ⟨w, w1⟩ := At_app w
  simp only [ByteArray.size_append (a := ((bytesB 1 m ++ bytesB 6 a) ++ bytesB 6 b) ++ bytesB 2 x3.toNat)] at w5
  have z1 : (bytesB 1 m ++ bytesB 6 a).size = 7 := by simp only [ByteArray.size_append, bytesB_size]
  have z2 : ((bytesB 1 m ++ bytesB 6 a) ++ bytesB 6 b).size = 13 := by simp only [ByteArray.size_append, bytesB_size]
  have z3 : (((bytesB 1 m ++ bytesB 6 a) ++ bytesB 6 b) ++ bytesB 2 x3.toNat).size = 15 := by simp only [ByteArray.size_append, bytesB_size]
  rw [bytesB_size] at w1
  rw [z1] at w2
  rw [z2] at w3
  rw [z3] at w4 w5
  have hsz : s3.size = 13 + 2 + (bytesB 2 k.size ++ k).size + ((if (m : Int) = 3 then ⟨#[]⟩ else bytesB 2 o.size ++ o) ++ (if (m : Int) = 4 then ⟨#[]⟩ else bytesB 2 n.size ++ n)).size := by
    have := congrArg ByteArray.size hs
    rw [ByteArray.size_append, ByteArray.size_append (a := (((bytesB 1 m ++ bytesB 6 a) ++ bytesB 6 b) ++ bytesB 2 x3.toNat)), z3] at this
    exact this
  have r1 := kind_at w hm hz
  have r2 := num_at' (q := 7) w1 (by omega) (by omega) (by omega) ha rfl
  have r3 := num_at' (q := 13) w2 (by omega) (by omega) (by omega) hb2 rfl
  have r2 : pack_Reader_Num.f s3 ((1 : Nat) : Int) 0 6 = some ((a : Int), s3, ((7 : Nat) : Int), 0) := r2
  have r3 : pack_Reader_Num.f s3 ((7 : Nat) : Int) 0 6 = some ((b : Int), s3, ((13 : Nat) : Int), 0) := r3
  have w5 : At s3 (13 + 2 + (bytesB 2 k.size ++ k).size) ((if (m : Int) = 3 then ⟨#[]⟩ else bytesB 2 o.size ++ o) ++ (if (m : Int) = 4 then ⟨#[]⟩ else bytesB 2 n.size ++ n)) := by
    have e : 0 + (15 + (bytesB 2 k.size ++ k).size) = 13 + 2 + (bytesB 2 k.size ++ k).size := by omega
    rw [e] at w5
    exact w5
  have r4 := readChange_at (m : Int) (by omega) (by omega) c1 c2 c3 (show At s3 13 (bytesB 2 x3.toNat) from w3) (show At s3 (13 + 2) (bytesB 2 k.size ++ k) from w4) w5
  have e3 : ((x3.toNat : Nat) : Int) = x3 := by omega
  have eo : (if (m : Int) = 3 then (⟨#[]⟩ : ByteArray) else o) = o := by
    by_cases c : (m : Int) = 3
    · rw [if_pos c, ho c]
    · rw [if_neg c]
  have en : (if (m : Int) = 4 then (⟨#[]⟩ : ByteArray) else n) = n := by
    by_cases c : (m : Int) = 4
    · rw [if_pos c, hn c]
    · rw [if_neg c]
  rw [e3, eo, en] at r4
  unfold rec_Of.f
  rw [r1, Option.bind_some]
  dsimp only
  rw [if_pos rfl, if_neg (by omega), if_neg (by omega), if_pos hK, r2, Option.bind_some]
  dsimp only
  rw [r3, Option.bind_some]
  dsimp only
  rw [r4, Option.bind_some]
  exact ofTail_end hb hz hsz.symm
theorem back_6 (x1 x2 x3 x4 : Int) (k o n : ByteArray) (x8 : Int) (ho : x4 = 3 → o = ⟨#[]⟩) (hn : x4 = 4 → n = ⟨#[]⟩) (s : ByteArray) (h : rec_body.f 6 x1 x2 x3 x4 k o n x8 [] [] 0 0 = some (s, 0)) : rec_Of.f s = some (6, x1, x2, x3, x4, k, o, n, x8, [], [], 0, 0, 0) := by
  have hb := h
  unfold rec_body.f at h
  obtain ⟨⟨s1, e1⟩, q1, h⟩ := Option.bind_eq_some_iff.mp h
  dsimp only at h
  rw [if_neg (by omega), if_neg (by omega), if_pos rfl] at h
  by_cases hx4 : 3 ≤ x4 ∧ x4 ≤ 5
  · rw [if_pos hx4] at h
    obtain ⟨ec, qc, h⟩ := Option.bind_eq_some_iff.mp h
    obtain ⟨⟨s2, e2⟩, q2, h⟩ := Option.bind_eq_some_iff.mp h
    dsimp only at h
    obtain ⟨⟨s5, e5⟩, q5, h⟩ := Option.bind_eq_some_iff.mp h
    dsimp only at h
    obtain ⟨⟨s6, e6⟩, q6, h⟩ := Option.bind_eq_some_iff.mp h
    dsimp only at h
    obtain ⟨⟨s3, e3⟩, q3, h⟩ := Option.bind_eq_some_iff.mp h
    simp only [Option.some.injEq] at h
    obtain ⟨rfl, rfl, rfl, hz⟩ := bodyTail_val h
    obtain ⟨c1, c2, c3⟩ := cut_val qc
    have r := change_alive q3
    subst r
    have r := wnum_alive q6
    subst r
    have r := wnum_alive q5
    subst r
    obtain ⟨a1, b1, g1, d1, _⟩ := wnum_tot ⟨#[]⟩ 0 6 1 (by decide)
    rw [q1] at g1
    simp only [Option.some.injEq, Prod.mk.injEq] at g1
    obtain ⟨rfl, rfl⟩ := g1
    rw [empty_size] at d1
    obtain ⟨a2, b2, g2, d2⟩ := link_tot s1 e1 6 x1 x2 x3 x4 k o n x8 [] [] 0 0 (by omega)
    rw [q2] at g2
    simp only [Option.some.injEq, Prod.mk.injEq] at g2
    obtain ⟨rfl, hg⟩ := g2
    obtain ⟨a5, b5, g5, d5, _⟩ := wnum_tot s2 0 x8 6 (by omega)
    rw [q5] at g5
    simp only [Option.some.injEq, Prod.mk.injEq] at g5
    obtain ⟨rfl, hg5⟩ := g5
    obtain ⟨a6, b6, g6, d6, _⟩ := wnum_tot s5 0 x4 1 (by omega)
    rw [q6] at g6
    simp only [Option.some.injEq, Prod.mk.injEq] at g6
    obtain ⟨rfl, hg6⟩ := g6
    obtain ⟨_, p0, p1, _, _, _, hs⟩ := change_val (by omega) q3
    obtain ⟨_, ac, v6, rfl, y6, _, _, hac, hs6⟩ := wnum_val (by omega) q6
    obtain ⟨_, nx, v5, rfl, y5, _, _, hnx, hs5⟩ := wnum_val (by omega) q5
    obtain rfl : v6 = 1 := by omega
    obtain rfl : v5 = 6 := by omega
    obtain ⟨rfl, a, b, rfl, rfl, ha, hb2, hs2⟩ := link_val (by omega) q2
    obtain ⟨m, hm0, hm, rfl⟩ := first_val q1 rfl
    rw [hs6, hs5, hs2] at hs
    have w := At_of hs
    obtain ⟨w, w7⟩ := At_app w
    obtain ⟨w, w6⟩ := At_app w
    obtain ⟨w, w5⟩ := At_app w
    obtain ⟨w, w4⟩ := At_app w
    obtain ⟨w, w3⟩ := At_app w
    obtain ⟨w, w2⟩ := At_app w
    obtain ⟨w, w1⟩ := At_app w
    have z1 : (bytesB 1 m ++ bytesB 6 a).size = 7 := by simp only [ByteArray.size_append, bytesB_size]
    have z2 : ((bytesB 1 m ++ bytesB 6 a) ++ bytesB 6 b).size = 13 := by simp only [ByteArray.size_append, bytesB_size]
    have z3 : (((bytesB 1 m ++ bytesB 6 a) ++ bytesB 6 b) ++ bytesB 6 nx).size = 19 := by simp only [ByteArray.size_append, bytesB_size]
    have z4 : ((((bytesB 1 m ++ bytesB 6 a) ++ bytesB 6 b) ++ bytesB 6 nx) ++ bytesB 1 ac).size = 20 := by simp only [ByteArray.size_append, bytesB_size]
    have z5 : (((((bytesB 1 m ++ bytesB 6 a) ++ bytesB 6 b) ++ bytesB 6 nx) ++ bytesB 1 ac) ++ bytesB 2 x3.toNat).size = 22 := by simp only [ByteArray.size_append, bytesB_size]
    rw [ByteArray.size_append (a := ((((bytesB 1 m ++ bytesB 6 a) ++ bytesB 6 b) ++ bytesB 6 nx) ++ bytesB 1 ac) ++ bytesB 2 x3.toNat), z5] at w7
    rw [bytesB_size] at w1
    rw [z1] at w2
    rw [z2] at w3
    rw [z3] at w4
    rw [z4] at w5
    rw [z5] at w6
    have hsz : s3.size = 20 + 2 + (bytesB 2 k.size ++ k).size + ((if (ac : Int) = 3 then ⟨#[]⟩ else bytesB 2 o.size ++ o) ++ (if (ac : Int) = 4 then ⟨#[]⟩ else bytesB 2 n.size ++ n)).size := by
      have := congrArg ByteArray.size hs
      rw [ByteArray.size_append, ByteArray.size_append (a := (((((bytesB 1 m ++ bytesB 6 a) ++ bytesB 6 b) ++ bytesB 6 nx) ++ bytesB 1 ac) ++ bytesB 2 x3.toNat)), z5] at this
      exact this
    have r1 := kind_at w hm hz
    have r2 := num_at' (q := 7) w1 (by omega) (by omega) (by omega) ha rfl
    have r3 := num_at' (q := 13) w2 (by omega) (by omega) (by omega) hb2 rfl
    have r5 := num_at' (q := 19) w3 (by omega) (by omega) (by omega) hnx rfl
    have r6 := num_at' (q := 20) w4 (by omega) (by omega) (by omega) hac rfl
    have r2 : pack_Reader_Num.f s3 ((1 : Nat) : Int) 0 6 = some ((a : Int), s3, ((7 : Nat) : Int), 0) := r2
    have r3 : pack_Reader_Num.f s3 ((7 : Nat) : Int) 0 6 = some ((b : Int), s3, ((13 : Nat) : Int), 0) := r3
    have r5 : pack_Reader_Num.f s3 ((13 : Nat) : Int) 0 6 = some ((nx : Int), s3, ((19 : Nat) : Int), 0) := r5
    have r6 : pack_Reader_Num.f s3 ((19 : Nat) : Int) 0 1 = some ((ac : Int), s3, ((20 : Nat) : Int), 0) := r6
    have w7 : At s3 (20 + 2 + (bytesB 2 k.size ++ k).size) ((if (ac : Int) = 3 then ⟨#[]⟩ else bytesB 2 o.size ++ o) ++ (if (ac : Int) = 4 then ⟨#[]⟩ else bytesB 2 n.size ++ n)) := by
      have e : 0 + (22 + (bytesB 2 k.size ++ k).size) = 20 + 2 + (bytesB 2 k.size ++ k).size := by omega
      rw [e] at w7
      exact w7
    have r4 := readChange_at (ac : Int) (by omega) (by omega) c1 c2 c3 (show At s3 20 (bytesB 2 x3.toNat) from w5) (show At s3 (20 + 2) (bytesB 2 k.size ++ k) from w6) w7
    have e3 : ((x3.toNat : Nat) : Int) = x3 := by omega
    have eo : (if (ac : Int) = 3 then (⟨#[]⟩ : ByteArray) else o) = o := by
      by_cases c : (ac : Int) = 3
      · rw [if_pos c, ho c]
      · rw [if_neg c]
    have en : (if (ac : Int) = 4 then (⟨#[]⟩ : ByteArray) else n) = n := by
      by_cases c : (ac : Int) = 4
      · rw [if_pos c, hn c]
      · rw [if_neg c]
    rw [e3, eo, en] at r4
    have r1 : pack_Reader_Num.f s3 0 0 1 = some ((6 : Int), s3, ((1 : Nat) : Int), 0) := by rw [hm0]; exact r1
    unfold rec_Of.f
    rw [r1, Option.bind_some]
    dsimp only
    rw [if_pos rfl, if_neg (by omega), if_pos rfl, r2, Option.bind_some]
    dsimp only
    rw [r3, Option.bind_some]
    dsimp only
    rw [r5, Option.bind_some]
    dsimp only
    rw [r6, Option.bind_some]
    dsimp only
    rw [r4, Option.bind_some]
    exact ofTail_end hb hz hsz.symm
  · rw [if_neg hx4] at h
    simp at h
/-- WHAT IS LAID OF A CLEAN RECORD IS READ AS IT WAS. -/
theorem body_back (x0 x1 x2 x3 x4 : Int) (k o n : ByteArray) (x8 : Int) (l9 : List S144) (l10 : List S36) (x11 x12 : Int) (y : RecT) (hy : y = cleanR x0 x1 x2 x3 x4 k o n x8 l9 l10 x11 x12) (s : ByteArray)
    (h : rec_body.f y.1 y.2.1 y.2.2.1 y.2.2.2.1 y.2.2.2.2.1 y.2.2.2.2.2.1 y.2.2.2.2.2.2.1 y.2.2.2.2.2.2.2.1 y.2.2.2.2.2.2.2.2.1 y.2.2.2.2.2.2.2.2.2.1 y.2.2.2.2.2.2.2.2.2.2.1 y.2.2.2.2.2.2.2.2.2.2.2.1 y.2.2.2.2.2.2.2.2.2.2.2.2 = some (s, 0)) :
    rec_Of.f s = some (y.1, y.2.1, y.2.2.1, y.2.2.2.1, y.2.2.2.2.1, y.2.2.2.2.2.1, y.2.2.2.2.2.2.1, y.2.2.2.2.2.2.2.1, y.2.2.2.2.2.2.2.2.1, y.2.2.2.2.2.2.2.2.2.1, y.2.2.2.2.2.2.2.2.2.2.1, y.2.2.2.2.2.2.2.2.2.2.2.1, y.2.2.2.2.2.2.2.2.2.2.2.2, 0) := by
  unfold cleanR at hy
  by_cases h1 : x0 = 1 ∨ x0 = 2
  · rw [if_pos h1] at hy
    subst hy
    exact back_12 x0 h1 l9 s h
  rw [if_neg h1] at hy
  by_cases h3 : x0 = 3 ∨ x0 = 4 ∨ x0 = 5
  · rw [if_pos h3] at hy
    subst hy
    exact back_345 x0 h3 x1 x2 x3 k _ _ (fun c => if_pos c) (fun c => if_pos c) s h
  rw [if_neg h3] at hy
  by_cases h6 : x0 = 6
  · rw [if_pos h6] at hy
    subst h6
    subst hy
    exact back_6 x1 x2 x3 x4 k _ _ x8 (fun c => if_pos c) (fun c => if_pos c) s h
  rw [if_neg h6] at hy
  by_cases h7 : x0 = 7 ∨ x0 = 8
  · rw [if_pos h7] at hy
    subst hy
    exact back_78 x0 h7 x1 x2 s h
  rw [if_neg h7] at hy
  by_cases h9 : x0 = 9
  · rw [if_pos h9] at hy
    subst h9
    subst hy
    exact back_9 l10 s h
  rw [if_neg h9] at hy
  by_cases h10 : x0 = 10
  · rw [if_pos h10] at hy
    subst h10
    subst hy
    exact back_10 x11 x12 s h
  rw [if_neg h10] at hy
  subst hy
  exfalso
  dsimp only at h
  unfold rec_body.f at h
  obtain ⟨⟨s1, e1⟩, q1, h⟩ := Option.bind_eq_some_iff.mp h
  dsimp only at h
  rw [if_neg (fun c => h1 (.inl c)), if_neg (fun c => h1 (.inr c)), if_neg h6, if_neg h3, if_neg h7, if_neg h9, if_neg h10] at h
  simp at h
end Go.Proofs.YteoebfiacnploaaGreat.HRec
namespace Go.Proofs.YteoebfiacnploaaGreat.HRec
open Go.RowKit Go.Proofs.YteoebfiacnploaaGreatW.PrintWords Go.Proofs.YteoebfiacnploaaGreatW.PrintLast Go.Proofs.YteoebfiacnploaaGreatW.PrintMore
set_option linter.unusedVariables false
set_option linter.unusedSimpArgs false
theorem At_drop {T B : ByteArray} {p q : Nat} (h : At T (p + q) B) : At (T.extract p T.size) q B := by
  obtain ⟨h1, h2⟩ := h
  have e : (T.extract p T.size).data.toList = T.data.toList.drop p := by
    rw [ByteArray.data_extract, Array.toList_extract]
    show List.take (T.size - p) (List.drop p T.data.toList) = _
    rw [List.take_of_length_le]
    rw [List.length_drop, size_list]
    omega
  refine ⟨?_, ?_⟩
  · rw [ByteArray.size_extract]; omega
  · rw [e, List.drop_drop]; exact h2
theorem At_end (A B : ByteArray) : At (A ++ B) A.size B := by
  refine ⟨by rw [ByteArray.size_append]; omega, ?_⟩
  rw [ByteArray.data_append, Array.toList_append, List.drop_append_of_le_length (by rw [size_list]; exact Nat.le_refl _), ← size_list A, List.drop_length, List.nil_append, ← size_list B, List.take_length]
theorem sum_range (s : ByteArray) (hs : s.size ≤ 1000000) : ∃ t : Nat, sum_Sum.f s = some (t : Int) ∧ t < 256 ^ 4 := by
  unfold sum_Sum.f
  rw [if_pos (by omega)]
  have h : ∀ x y : Int, 0 ≤ Go.bits .xor .u32 x y ∧ Go.bits .xor .u32 x y < 4294967296 := by
    intro x y
    have hw : ∀ n : Int, IntKind.wrap .u32 n = n % 4294967296 := fun n => rfl
    show 0 ≤ IntKind.wrap .u32 _ ∧ IntKind.wrap .u32 _ < 4294967296
    rw [hw]
    exact ⟨Int.emod_nonneg _ (by decide), Int.emod_lt_of_pos _ (by decide)⟩
  obtain ⟨a, b⟩ := h (sumRun 4294967295 s s.size) 4294967295
  exact ⟨(Go.bits .xor .u32 (sumRun 4294967295 s s.size) 4294967295).toNat, by rw [Int.toNat_of_nonneg a], by omega⟩
theorem of_empty : rec_Of.f ⟨#[]⟩ = some (noRec 2) := by kernel_rfl
/-- A frame, and what it is made of. -/
theorem frame_val {y : RecT} {s : ByteArray} (h9 : y.2.2.2.2.2.2.2.2.2.1.length ≤ 9223372036854775807) (h : frameF y = some (s, 0)) : ∃ (b : ByteArray) (t : Nat), rec_body.f y.1 y.2.1 y.2.2.1 y.2.2.2.1 y.2.2.2.2.1 y.2.2.2.2.2.1 y.2.2.2.2.2.2.1 y.2.2.2.2.2.2.2.1 y.2.2.2.2.2.2.2.2.1 y.2.2.2.2.2.2.2.2.2.1 y.2.2.2.2.2.2.2.2.2.2.1 y.2.2.2.2.2.2.2.2.2.2.2.1 y.2.2.2.2.2.2.2.2.2.2.2.2 = some (b, 0) ∧ b.size ≤ 4096 ∧ sum_Sum.f b = some (t : Int) ∧ t < 256 ^ 4 ∧ s = bytesB 2 b.size ++ (bytesB 4 t ++ b) := by
  unfold frameF at h
  obtain ⟨⟨b, e⟩, q, h⟩ := Option.bind_eq_some_iff.mp h
  dsimp only at h
  by_cases he : e = 0
  · subst he
    rw [if_pos rfl] at h
    have hz : b.size ≤ 4096 := by
      obtain ⟨s', e', q', z⟩ := body_tot y.1 y.2.1 y.2.2.1 y.2.2.2.1 y.2.2.2.2.1 y.2.2.2.2.2.1 y.2.2.2.2.2.2.1 y.2.2.2.2.2.2.2.1 y.2.2.2.2.2.2.2.2.1 y.2.2.2.2.2.2.2.2.2.1 y.2.2.2.2.2.2.2.2.2.2.1 y.2.2.2.2.2.2.2.2.2.2.2.1 y.2.2.2.2.2.2.2.2.2.2.2.2 h9
      rw [q] at q'
      simp only [Option.some.injEq, Prod.mk.injEq] at q'
      rw [q'.1]
      exact z
    obtain ⟨t, ht, htb⟩ := sum_range b (by omega)
    have hp := put_val 20 ⟨#[]⟩ b.size 2 (by omega) (by omega) (by omega) (by omega) (by decide)
    have hp : pack_Put.f 20 ⟨#[]⟩ (b.size : Int) 2 = some (⟨#[]⟩ ++ bytesB 2 b.size, 0) := hp
    have hc := put_val 20 ⟨#[]⟩ t 4 (by omega) (by omega) (by omega) htb (by decide)
    have hc : pack_Put.f 20 ⟨#[]⟩ (t : Int) 4 = some (⟨#[]⟩ ++ bytesB 4 t, 0) := hc
    rw [nil_app] at hp hc
    rw [hp, Option.bind_some] at h
    unfold sum_Seal.f at h
    rw [ht, Option.bind_some, hc, Option.bind_some] at h
    dsimp only at h
    rw [if_pos (by rw [bytesB_size]; omega), Option.bind_some] at h
    rw [if_pos (by rw [ByteArray.size_append, bytesB_size, bytesB_size]; omega)] at h
    simp only [Option.some.injEq, Prod.mk.injEq, and_true] at h
    exact ⟨b, t, q, hz, ht, htb, h.symm⟩
  · rw [if_neg he] at h
    simp only [Option.some.injEq, Prod.mk.injEq] at h
    exact absurd h.2 he
/-- A FRAME IS OPENED AS THE RECORD THAT IT WAS, WHEREVER IT STANDS. -/
theorem frame_read (x0 x1 x2 x3 x4 : Int) (k o n : ByteArray) (x8 : Int) (l9 : List S144) (l10 : List S36) (x11 x12 : Int) (y : RecT) (hy : y = cleanR x0 x1 x2 x3 x4 k o n x8 l9 l10 x11 x12) (h9 : y.2.2.2.2.2.2.2.2.2.1.length ≤ 9223372036854775807) (s : ByteArray) (h : frameF y = some (s, 0)) (T : ByteArray) (p : Nat) (hT : T.size ≤ 1000000) (hA : At T p s) :
    rec_Open.f 5 T (p : Int) = some (y.1, y.2.1, y.2.2.1, y.2.2.2.1, y.2.2.2.2.1, y.2.2.2.2.2.1, y.2.2.2.2.2.2.1, y.2.2.2.2.2.2.2.1, y.2.2.2.2.2.2.2.2.1, y.2.2.2.2.2.2.2.2.2.1, y.2.2.2.2.2.2.2.2.2.2.1, y.2.2.2.2.2.2.2.2.2.2.2.1, y.2.2.2.2.2.2.2.2.2.2.2.2, (s.size : Int), 0) ∧ 7 ≤ s.size := by
  obtain ⟨b, t, hb, hz, ht, htb, hs⟩ := frame_val h9 h
  have hof := body_back x0 x1 x2 x3 x4 k o n x8 l9 l10 x11 x12 y hy b hb
  have hb1 : 1 ≤ b.size := by
    by_cases hc : b.size = 0
    · have : b = ⟨#[]⟩ := by
        apply ba_ext
        have : b.data.toList.length = 0 := by rw [size_list]; exact hc
        rw [List.length_eq_zero_iff.mp this]
      rw [this, of_empty] at hof
      unfold noRec at hof
      simp only [Option.some.injEq, Prod.mk.injEq] at hof
      exact absurd hof.2.2.2.2.2.2.2.2.2.2.2.2.2 (by decide)
    · omega
  have hsz : s.size = 6 + b.size := by rw [hs, ByteArray.size_append, ByteArray.size_append, bytesB_size, bytesB_size]; omega
  have hA1 := hA.1
  refine ⟨?_, by omega⟩
  rw [hs] at hA
  have hD := At_drop (show At T (p + 0) (bytesB 2 b.size ++ (bytesB 4 t ++ b)) from hA)
  obtain ⟨d1, d2⟩ := At_app hD
  rw [bytesB_size] at d2
  have hTs : ((T.extract p T.size).size : Int) = T.size - p := by rw [ByteArray.size_extract]; omega
  have hn : pack_Reader_Num.f (T.extract p T.size) 0 0 2 = some ((b.size : Int), T.extract p T.size, ((2 : Nat) : Int), 0) := num_at' (w := 2) (q := 2) d1 (by omega) (by omega) (by omega) (by omega) rfl
  have hex : (T.extract p T.size).extract 2 ((6 : Int) + (b.size : Int)).toNat = bytesB 4 t ++ b := by
    have := At_extract d2
    rw [ByteArray.size_append, bytesB_size] at this
    rw [show ((6 : Int) + (b.size : Int)).toNat = 0 + 2 + (4 + b.size) by omega]
    exact this
  have hC := At_whole (bytesB 4 t ++ b)
  obtain ⟨c1, c2⟩ := At_app hC
  have hcs : (bytesB 4 t ++ b).size = 4 + b.size := by rw [ByteArray.size_append, bytesB_size]
  have hcn : pack_Reader_Num.f (bytesB 4 t ++ b) 0 0 4 = some ((t : Int), bytesB 4 t ++ b, ((4 : Nat) : Int), 0) := num_at' (w := 4) (q := 4) c1 (by omega) (by omega) (by omega) htb rfl
  have hce : (bytesB 4 t ++ b).extract 4 (bytesB 4 t ++ b).size = b := by
    rw [bytesB_size] at c2
    have := At_extract c2
    rw [hcs]
    rw [show 0 + 4 + b.size = 4 + b.size by omega] at this
    exact this
  have hso : sum_Open.f (bytesB 4 t ++ b) = some (b, 0) := by
    unfold sum_Open.f pack_Read.f
    rw [if_neg (by omega), Option.bind_some]
    dsimp only
    rw [hcn, Option.bind_some]
    dsimp only
    rw [if_pos (by omega), hce, ht, Option.bind_some, if_pos rfl]
  have hpt : ((p : Int)).toNat = p := Int.toNat_natCast p
  unfold rec_Open.f
  rw [if_neg (by omega), decide_eq_false (by omega)]
  unfold rec_Open.j0 pack_Read.f
  dsimp only
  rw [if_neg (by decide), if_pos (by omega), if_pos (by omega), hpt]
  generalize T.extract p T.size = T' at *
  rw [if_neg (by omega), Option.bind_some]
  dsimp only
  rw [hn, Option.bind_some]
  dsimp only
  rw [if_neg (by omega), decide_eq_false (by omega)]
  unfold rec_Open.j1
  dsimp only
  rw [if_neg (by decide), w64 (by omega) (by omega), w64 (n := (6 : Int) + (b.size : Int)) (by omega) (by omega), if_neg (by omega), if_pos (by omega), if_pos (by omega), hex, hso, Option.bind_some]
  dsimp only
  rw [if_pos rfl, hof, Option.bind_some]
  dsimp only
  rw [if_pos rfl, hsz]
  rfl
end Go.Proofs.YteoebfiacnploaaGreat.HRec
