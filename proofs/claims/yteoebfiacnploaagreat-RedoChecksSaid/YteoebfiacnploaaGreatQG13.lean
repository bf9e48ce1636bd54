/- Texts of this proof, put together: PureOf, PureOfB. They prove no statement. -/
import Derived.Test.YteoebfiacnploaaGreatQG12
import Derived.Test.YteoebfiacnploaaGreatQG2
namespace Go.Proofs.YteoebfiacnploaaGreat.HRec
open Go.RowKit Go.Proofs.YteoebfiacnploaaGreatW.PrintWords Go.Proofs.YteoebfiacnploaaGreatW.PrintLast Go.Proofs.YteoebfiacnploaaGreatW.PrintMore
set_option linter.unusedVariables false
set_option linter.unusedSimpArgs false
theorem textIf_at {T : ByteArray} {p q : Nat} {t old : ByteArray} (k : Nat) (yes : Bool) (most : Int) (h : At T p (if yes then bytesB 2 t.size ++ t else ⟨#[]⟩)) (hs : T.size ≤ 1000000) (ht : yes = true → t.size < 65536 ∧ (t.size : Int) ≤ most) (hq : q = p + (if yes then bytesB 2 t.size ++ t else ⟨#[]⟩).size) : textIf (k + 1) yes old T (p : Int) 0 most = some (if yes then t else old, T, (q : Int), 0) := by
  unfold textIf
  cases yes
  · subst hq
    rfl
  · obtain ⟨a, b⟩ := ht rfl
    rw [if_pos rfl, if_pos rfl]
    refine text_at' k most h hs a b ?_
    rw [hq, if_pos rfl, ByteArray.size_append, bytesB_size]
    omega
theorem readChange_at {T : ByteArray} {p pg : Nat} {k o n : ByteArray} (act : Int) (hs : T.size ≤ 1000000) (hpg : pg < 65536) (hk : k.size ≤ 16) (ho : o.size ≤ 32) (hn : n.size ≤ 32)
    (h1 : At T p (bytesB 2 pg)) (h2 : At T (p + 2) (bytesB 2 k.size ++ k)) (h3 : At T (p + 2 + (bytesB 2 k.size ++ k).size) ((if act = 3 then ⟨#[]⟩ else bytesB 2 o.size ++ o) ++ (if act = 4 then ⟨#[]⟩ else bytesB 2 n.size ++ n))) :
    rec_readChange.f 5 T (p : Int) 0 act ⟨#[]⟩ ⟨#[]⟩ = some ((pg : Int), k, (if act = 3 then ⟨#[]⟩ else o), (if act = 4 then ⟨#[]⟩ else n), T, ((p + 2 + (bytesB 2 k.size ++ k).size + ((if act = 3 then ⟨#[]⟩ else bytesB 2 o.size ++ o) ++ (if act = 4 then ⟨#[]⟩ else bytesB 2 n.size ++ n)).size : Nat) : Int), 0) := by
  obtain ⟨h4, h5⟩ := At_app h3
  have a1 := num_at' (q := p + 2) h1 hs (by omega) (by omega) (by omega) rfl
  have a2 := text_at' (q := p + 2 + (bytesB 2 k.size ++ k).size) 4 16 h2 hs (by omega) (by omega) (by rw [ByteArray.size_append, bytesB_size]; omega)
  have e3 : (if act = 3 then (⟨#[]⟩ : ByteArray) else bytesB 2 o.size ++ o) = (if (act != 3) = true then bytesB 2 o.size ++ o else ⟨#[]⟩) := by
    by_cases c : act = 3
    · rw [if_pos c, if_neg (by rw [c]; decide)]
    · rw [if_neg c, if_pos (bne_iff_ne.mpr c)]
  have e4 : (if act = 4 then (⟨#[]⟩ : ByteArray) else bytesB 2 n.size ++ n) = (if (act != 4) = true then bytesB 2 n.size ++ n else ⟨#[]⟩) := by
    by_cases c : act = 4
    · rw [if_pos c, if_neg (by rw [c]; decide)]
    · rw [if_neg c, if_pos (bne_iff_ne.mpr c)]
  have f3 : (if (act != 3) = true then o else (⟨#[]⟩ : ByteArray)) = (if act = 3 then ⟨#[]⟩ else o) := by
    by_cases c : act = 3
    · rw [if_pos c, if_neg (by rw [c]; decide)]
    · rw [if_neg c, if_pos (bne_iff_ne.mpr c)]
  have f4 : (if (act != 4) = true then n else (⟨#[]⟩ : ByteArray)) = (if act = 4 then ⟨#[]⟩ else n) := by
    by_cases c : act = 4
    · rw [if_pos c, if_neg (by rw [c]; decide)]
    · rw [if_neg c, if_pos (bne_iff_ne.mpr c)]
  rw [e3] at h4 h5
  rw [e4] at h5
  have a3 := textIf_at (old := ⟨#[]⟩) 4 (act != 3) 32 h4 hs (fun _ => ⟨by omega, by omega⟩) rfl
  have a4 := textIf_at (old := ⟨#[]⟩) 4 (act != 4) 32 h5 hs (fun _ => ⟨by omega, by omega⟩) rfl
  unfold rec_readChange.f
  rw [show ((2 : Int)) = ((2 : Nat) : Int) from rfl, a1, Option.bind_some]
  dsimp only
  rw [a2, Option.bind_some]
  dsimp only
  rw [a3, Option.bind_some]
  dsimp only
  rw [a4, Option.bind_some]
  dsimp only
  rw [f3, f4, e3, e4, ByteArray.size_append (a := if (act != 3) = true then bytesB 2 o.size ++ o else ⟨#[]⟩), ← Nat.add_assoc]
theorem link_val {s : ByteArray} {e x0 x1 x2 x3 x4 : Int} {k o n : ByteArray} {x8 : Int} {l9 : List S144} {l10 : List S36} {x11 x12 : Int} {t : ByteArray} (hs : s.size ≤ 1000000) (h : rec_link.f s e x0 x1 x2 x3 x4 k o n x8 l9 l10 x11 x12 = some (t, 0)) :
    e = 0 ∧ ∃ a b : Nat, x1 = a ∧ x2 = b ∧ a < 256 ^ 6 ∧ b < 256 ^ 6 ∧ t = (s ++ bytesB 6 a) ++ bytesB 6 b := by
  unfold rec_link.f at h
  obtain ⟨⟨s1, e1⟩, q1, h⟩ := Option.bind_eq_some_iff.mp h
  dsimp only at h
  obtain ⟨⟨s2, e2⟩, q2, h⟩ := Option.bind_eq_some_iff.mp h
  simp only [Option.some.injEq, Prod.mk.injEq] at h
  obtain ⟨rfl, rfl⟩ := h
  obtain ⟨a1, b1, c1, d1, _⟩ := wnum_tot s e x1 6 (by omega)
  rw [q1] at c1
  simp only [Option.some.injEq, Prod.mk.injEq] at c1
  obtain ⟨rfl, rfl⟩ := c1
  obtain ⟨u1, m2, w2, u2, u3, _, _, u4, u5⟩ := wnum_val (by omega) q2
  subst u1
  obtain ⟨v1, m1, w1, v2, v3, _, _, v4, v5⟩ := wnum_val (by omega) q1
  obtain rfl : w1 = 6 := by omega
  obtain rfl : w2 = 6 := by omega
  exact ⟨v1, m1, m2, v2, u2, v4, u4, by rw [u5, v5]⟩
theorem ofTail_end {s : ByteArray} {x0 x1 x2 x3 x4 : Int} {k o n : ByteArray} {x8 : Int} {l9 : List S144} {l10 : List S36} {x11 x12 : Int} (hb : rec_body.f x0 x1 x2 x3 x4 k o n x8 l9 l10 x11 x12 = some (s, 0)) (hs : s.size ≤ 4096) {p : Nat} (hp : p = s.size) :
    ofTail s (s, (p : Int), 0) x0 x1 x2 x3 x4 k o n x8 l9 l10 x11 x12 = some (x0, x1, x2, x3, x4, k, o, n, x8, l9, l10, x11, x12, 0) := by
  unfold ofTail
  dsimp only
  rw [pos_end hp (by omega), Option.bind_some]
  dsimp only
  rw [if_pos rfl, hb, Option.bind_some]
  dsimp only
  rw [if_pos rfl, if_pos rfl]
theorem At_of {s X : ByteArray} (h : s = X) : At s 0 X := (congrArg (At s 0) h).mp (At_whole s)
/-- The first number of a body is the kind. -/
theorem first_val {x0 : Int} {s1 : ByteArray} {e1 : Int} (q : pack_Writer_Num.f ⟨#[]⟩ 0 x0 1 = some (s1, e1)) (he : e1 = 0) : ∃ m : Nat, x0 = m ∧ m < 256 ∧ s1 = bytesB 1 m := by
  subst he
  obtain ⟨_, m, w, v2, v3, _, _, v4, v5⟩ := wnum_val (by decide) q
  obtain rfl : w = 1 := by omega
  exact ⟨m, v2, by omega, by rw [v5, nil_app]⟩
theorem kind_at {s : ByteArray} {m : Nat} (h : At s 0 (bytesB 1 m)) (hm : m < 256) (hs : s.size ≤ 4096) : pack_Reader_Num.f s 0 0 1 = some ((m : Int), s, ((1 : Nat) : Int), 0) := num_at' (w := 1) (q := 1) h (by omega) (by omega) (by omega) (by omega) rfl
end Go.Proofs.YteoebfiacnploaaGreat.HRec
namespace Go.Proofs.YteoebfiacnploaaGreat.HRec
open Go.RowKit Go.Proofs.YteoebfiacnploaaGreatW.PrintWords Go.Proofs.YteoebfiacnploaaGreatW.PrintLast Go.Proofs.YteoebfiacnploaaGreatW.PrintMore
set_option linter.unusedVariables false
set_option linter.unusedSimpArgs false
theorem wnum_alive {s : ByteArray} {e n w : Int} {t : ByteArray} (h : pack_Writer_Num.f s e n w = some (t, 0)) : e = 0 := by
  unfold pack_Writer_Num.f layF at h
  by_cases he : e = 0
  · exact he
  · rw [if_neg he] at h
    simp only [Option.some.injEq, Prod.mk.injEq] at h
    exact absurd h.2 he
theorem wtext_alive {s : ByteArray} {e : Int} {x t : ByteArray} (h : pack_Writer_Text.f s e x = some (t, 0)) : e = 0 := by
  unfold pack_Writer_Text.f layF at h
  by_cases he : e = 0
  · exact he
  · rw [if_neg he] at h
    simp only [Option.some.injEq, Prod.mk.injEq] at h
    exact absurd h.2 he
theorem tabF_alive : ∀ (l : List S36) (s : ByteArray) (e : Int) (t : ByteArray), tabF l s e = some (t, 0) → e = 0
  | [], s, e, t, h => by
    unfold tabF at h
    simp only [Option.some.injEq, Prod.mk.injEq] at h
    exact h.2
  | a :: l, s, e, t, h => by
    unfold tabF at h
    obtain ⟨⟨s1, e1⟩, q1, h⟩ := Option.bind_eq_some_iff.mp h
    dsimp only at h
    obtain ⟨⟨s2, e2⟩, q2, h⟩ := Option.bind_eq_some_iff.mp h
    have r := tabF_alive l s2 e2 t h
    subst r
    have r := wnum_alive q2
    subst r
    exact wnum_alive q1
theorem images_alive (l : List S144) : ∀ (k : Nat) (i : Int) (s : ByteArray) (e : Int) (t : ByteArray), rec_images.l0 k l (l.length : Int) i s e = some (0, t, 0) → e = 0
  | 0, i, s, e, t, h => by simp [rec_images.l0] at h
  | k + 1, i, s, e, t, h => by
    unfold rec_images.l0 at h
    by_cases hc : i < (l.length : Int)
    · rw [if_pos hc] at h
      by_cases h0 : 0 ≤ i
      · rw [if_pos h0, if_pos hc] at h
        by_cases hz : ((rd_T144 l i).f1.size : Int) = 224
        · rw [if_pos hz] at h
          obtain ⟨⟨s1, e1⟩, q1, h⟩ := Option.bind_eq_some_iff.mp h
          dsimp only at h
          obtain ⟨⟨s2, e2⟩, q2, h⟩ := Option.bind_eq_some_iff.mp h
          have r := images_alive l k _ s2 e2 t h
          subst r
          have r := wtext_alive q2
          subst r
          exact wnum_alive q1
        · rw [if_neg hz] at h
          simp at h
      · rw [if_neg h0] at h
        simp at h
    · rw [if_neg hc] at h
      simp only [Option.some.injEq, Prod.mk.injEq, true_and] at h
      exact h.2
/-- An end, or a commit. -/
theorem back_78 (K : Int) (hK : K = 7 ∨ K = 8) (x1 x2 : Int) (s : ByteArray) (h : rec_body.f K x1 x2 0 0 ⟨#[]⟩ ⟨#[]⟩ ⟨#[]⟩ 0 [] [] 0 0 = some (s, 0)) : rec_Of.f s = some (K, x1, x2, 0, 0, ⟨#[]⟩, ⟨#[]⟩, ⟨#[]⟩, 0, [], [], 0, 0, 0) := by
  have hb := h
  unfold rec_body.f at h
  obtain ⟨⟨s1, e1⟩, q1, h⟩ := Option.bind_eq_some_iff.mp h
  dsimp only at h
  rw [if_neg (by omega), if_neg (by omega), if_neg (by omega), if_neg (by omega), if_pos hK] at h
  obtain ⟨⟨s2, e2⟩, q2, h⟩ := Option.bind_eq_some_iff.mp h
  simp only [Option.some.injEq] at h
  obtain ⟨_, rfl, rfl, hz⟩ := bodyTail_val h
  obtain ⟨a1, b1, c1, d1, _⟩ := wnum_tot ⟨#[]⟩ 0 K 1 (by decide)
  rw [q1] at c1
  simp only [Option.some.injEq, Prod.mk.injEq] at c1
  obtain ⟨rfl, rfl⟩ := c1
  rw [empty_size] at d1
  obtain ⟨rfl, a, b, rfl, rfl, ha, hb2, hs⟩ := link_val (by omega) q2
  obtain ⟨m, rfl, hm, rfl⟩ := first_val q1 rfl
  have w := At_of hs
  obtain ⟨w1, w3⟩ := At_app w
  obtain ⟨w1, w2⟩ := At_app w1
  simp only [ByteArray.size_append, bytesB_size] at w2 w3
  have hsz : s2.size = 13 := by rw [hs]; simp only [ByteArray.size_append, bytesB_size]
  have r1 := kind_at w1 hm hz
  have r2 := num_at' (q := 7) w2 (by omega) (by omega) (by omega) ha rfl
  have r3 := num_at' (q := 13) w3 (by omega) (by omega) (by omega) hb2 rfl
  have r2 : pack_Reader_Num.f s2 ((1 : Nat) : Int) 0 6 = some ((a : Int), s2, ((7 : Nat) : Int), 0) := r2
  have r3 : pack_Reader_Num.f s2 ((7 : Nat) : Int) 0 6 = some ((b : Int), s2, ((13 : Nat) : Int), 0) := r3
  unfold rec_Of.f
  rw [r1, Option.bind_some]
  dsimp only
  rw [if_pos rfl, if_neg (by omega), if_neg (by omega), if_neg (by omega), if_pos hK, r2, Option.bind_some]
  dsimp only
  rw [r3, Option.bind_some]
  exact ofTail_end hb hz hsz.symm
/-- An epoch. -/
theorem back_10 (x11 x12 : Int) (s : ByteArray) (h : rec_body.f 10 0 0 0 0 ⟨#[]⟩ ⟨#[]⟩ ⟨#[]⟩ 0 [] [] x11 x12 = some (s, 0)) : rec_Of.f s = some (10, 0, 0, 0, 0, ⟨#[]⟩, ⟨#[]⟩, ⟨#[]⟩, 0, [], [], x11, x12, 0) := by
  have hb := h
  unfold rec_body.f at h
  obtain ⟨⟨s1, e1⟩, q1, h⟩ := Option.bind_eq_some_iff.mp h
  dsimp only at h
  rw [if_neg (by omega), if_neg (by omega), if_neg (by omega), if_neg (by omega), if_neg (by omega), if_neg (by omega), if_pos rfl] at h
  obtain ⟨⟨s2, e2⟩, q2, h⟩ := Option.bind_eq_some_iff.mp h
  dsimp only at h
  obtain ⟨⟨s3, e3⟩, q3, h⟩ := Option.bind_eq_some_iff.mp h
  simp only [Option.some.injEq] at h
  obtain ⟨_, rfl, rfl, hz⟩ := bodyTail_val h
  obtain ⟨a1, b1, c1, d1, _⟩ := wnum_tot ⟨#[]⟩ 0 10 1 (by decide)
  rw [q1] at c1
  simp only [Option.some.injEq, Prod.mk.injEq] at c1
  obtain ⟨rfl, rfl⟩ := c1
  rw [empty_size] at d1
  obtain ⟨a2, b2, c2, d2, _⟩ := wnum_tot s1 e1 x11 4 (by omega)
  rw [q2] at c2
  simp only [Option.some.injEq, Prod.mk.injEq] at c2
  obtain ⟨rfl, rfl⟩ := c2
  obtain ⟨rfl, b, w1, rfl, y1, _, _, hb2, hs⟩ := wnum_val (by omega) q3
  obtain ⟨rfl, a, w2, rfl, y2, _, _, ha, hs2⟩ := wnum_val (by omega) q2
  obtain ⟨m, hm0, hm, rfl⟩ := first_val q1 rfl
  obtain rfl : w1 = 1 := by omega
  obtain rfl : w2 = 4 := by omega
  obtain rfl : m = 10 := by omega
  rw [hs2] at hs
  have w := At_of hs
  obtain ⟨w1, w3⟩ := At_app w
  obtain ⟨w1, w2⟩ := At_app w1
  simp only [ByteArray.size_append, bytesB_size] at w2 w3
  have hsz : s3.size = 6 := by rw [hs]; simp only [ByteArray.size_append, bytesB_size]
  have r1 : pack_Reader_Num.f s3 0 0 1 = some ((10 : Int), s3, ((1 : Nat) : Int), 0) := kind_at w1 hm hz
  have r2 := num_at' (q := 5) w2 (by omega) (by omega) (by omega) ha rfl
  have r3 := num_at' (q := 6) w3 (by omega) (by omega) (by omega) hb2 rfl
  have r2 : pack_Reader_Num.f s3 ((1 : Nat) : Int) 0 4 = some ((a : Int), s3, ((5 : Nat) : Int), 0) := r2
  have r3 : pack_Reader_Num.f s3 ((5 : Nat) : Int) 0 1 = some ((b : Int), s3, ((6 : Nat) : Int), 0) := r3
  unfold rec_Of.f
  rw [r1, Option.bind_some]
  dsimp only
  rw [if_pos rfl, if_neg (by omega), if_neg (by omega), if_neg (by omega), if_neg (by omega), if_neg (by omega), if_pos rfl, r2, Option.bind_some]
  dsimp only
  rw [r3, Option.bind_some]
  exact ofTail_end hb hz hsz.symm
/-- A check. -/
theorem back_9 (l10 : List S36) (s : ByteArray) (h : rec_body.f 9 0 0 0 0 ⟨#[]⟩ ⟨#[]⟩ ⟨#[]⟩ 0 [] l10 0 0 = some (s, 0)) : rec_Of.f s = some (9, 0, 0, 0, 0, ⟨#[]⟩, ⟨#[]⟩, ⟨#[]⟩, 0, [], l10, 0, 0, 0) := by
  have hb := h
  unfold rec_body.f at h
  obtain ⟨⟨s1, e1⟩, q1, h⟩ := Option.bind_eq_some_iff.mp h
  dsimp only at h
  rw [if_neg (by omega), if_neg (by omega), if_neg (by omega), if_neg (by omega), if_neg (by omega), if_pos rfl] at h
  obtain ⟨⟨s2, e2⟩, q2, h⟩ := Option.bind_eq_some_iff.mp h
  dsimp only at h
  obtain ⟨⟨s3, e3⟩, q3, h⟩ := Option.bind_eq_some_iff.mp h
  simp only [Option.some.injEq] at h
  obtain ⟨_, rfl, rfl, hz⟩ := bodyTail_val h
  obtain ⟨a1, b1, c1, d1, _⟩ := wnum_tot ⟨#[]⟩ 0 9 1 (by decide)
  rw [q1] at c1
  simp only [Option.some.injEq, Prod.mk.injEq] at c1
  obtain ⟨rfl, rfl⟩ := c1
  rw [empty_size] at d1
  have r := tabF_alive l10 s2 e2 s3 q3
  subst r
  have r := wnum_alive q2
  subst r
  obtain ⟨m, hm0, hm, rfl⟩ := first_val q1 rfl
  obtain rfl : m = 9 := by omega
  obtain ⟨_, n, v, hn, y2, _, _, hn2, hs2⟩ := wnum_val (by omega) q2
  obtain rfl : v = 1 := by omega
  obtain rfl : n = l10.length := by omega
  have hl : l10.length < 256 := by omega
  have hz2 : s2.size = 2 := by rw [hs2]; simp only [ByteArray.size_append, bytesB_size]
  obtain ⟨_, hs, hok⟩ := tabF_val l10 s2 0 s3 q3 (by omega)
  rw [hs2] at hs
  have w := At_of hs
  obtain ⟨w1, w3⟩ := At_app w
  obtain ⟨w1, w2⟩ := At_app w1
  simp only [ByteArray.size_append, bytesB_size] at w2 w3
  have hsz : s3.size = 2 + (actsB l10).size := by rw [hs]; simp only [ByteArray.size_append, bytesB_size]
  have r1 : pack_Reader_Num.f s3 0 0 1 = some ((9 : Int), s3, ((1 : Nat) : Int), 0) := kind_at w1 hm hz
  have r2 := num_at' (q := 2) w2 (by omega) (by omega) (by omega) hn2 rfl
  have r2 : pack_Reader_Num.f s3 ((1 : Nat) : Int) 0 1 = some ((l10.length : Int), s3, ((2 : Nat) : Int), 0) := r2
  have r3 := readTable_at (by omega) l10 [] 2 300 w3 hok (by simp; omega) (by omega)
  have r3 : rec_readTable.l0 300 [] (l10.length : Int) 0 s3 ((2 : Nat) : Int) 0 = some (l10, s3, ((2 + (actsB l10).size : Nat) : Int), 0) := by
    have e0 : ((([] : List S36).length + l10.length : Nat) : Int) = (l10.length : Int) := by simp
    rw [e0] at r3
    exact r3
  unfold rec_Of.f
  rw [r1, Option.bind_some]
  dsimp only
  rw [if_pos rfl, if_neg (by omega), if_neg (by omega), if_neg (by omega), if_neg (by omega), if_pos rfl]
  unfold rec_readTable.f
  rw [r2, Option.bind_some]
  dsimp only
  rw [r3, Option.bind_some]
  exact ofTail_end hb hz hsz.symm
/-- Pages. -/
theorem back_12 (K : Int) (hK : K = 1 ∨ K = 2) (l9 : List S144) (s : ByteArray) (h : rec_body.f K 0 0 0 0 ⟨#[]⟩ ⟨#[]⟩ ⟨#[]⟩ 0 l9 [] 0 0 = some (s, 0)) : rec_Of.f s = some (K, 0, 0, 0, 0, ⟨#[]⟩, ⟨#[]⟩, ⟨#[]⟩, 0, l9, [], 0, 0, 0) := by
  have hb := h
  unfold rec_body.f at h
  obtain ⟨⟨s1, e1⟩, q1, h⟩ := Option.bind_eq_some_iff.mp h
  dsimp only at h
  have h : ((rec_images.f (l9.length + 5) s1 e1 l9).bind fun i => some (bodyTail i.1 i.2.1 i.2.2)) = some (s, 0) := by
    rcases hK with rfl | rfl
    · rw [if_pos rfl] at h
      by_cases h1 : l9.length = 1
      · rw [if_pos h1] at h
        exact h
      · rw [if_neg h1] at h
        simp at h
    · rw [if_neg (by omega), if_pos rfl] at h
      exact h
  obtain ⟨⟨c, s3, e3⟩, q3, h⟩ := Option.bind_eq_some_iff.mp h
  simp only [Option.some.injEq] at h
  obtain ⟨rfl, rfl, rfl, hz⟩ := bodyTail_val h
  unfold rec_images.f at q3
  obtain ⟨⟨s2, e2⟩, q2, q4⟩ := Option.bind_eq_some_iff.mp q3
  dsimp only at q4
  clear q3; have r := images_alive l9 _ _ s2 e2 s3 q4
  subst r
  have r := wnum_alive q2
  subst r
  obtain ⟨m, hm0, hm, rfl⟩ := first_val q1 rfl
  have hz1 : (bytesB 1 m).size = 1 := bytesB_size 1 m
  obtain ⟨_, n, v, hn, y2, _, _, hn2, hs2⟩ := wnum_val (by omega) q2
  obtain rfl : v = 1 := by omega
  obtain rfl : n = l9.length := by omega
  have hl : l9.length < 256 := by omega
  have hz2 : s2.size = 2 := by rw [hs2]; simp only [ByteArray.size_append, bytesB_size]
  obtain ⟨_, hs, hok⟩ := images_l_val l9 hl (l9.length + 5) 0 s2 0 s3 q4 (by omega) (by omega)
  rw [List.drop_zero] at hs hok
  rw [hs2] at hs
  have w := At_of hs
  obtain ⟨w1, w3⟩ := At_app w
  obtain ⟨w1, w2⟩ := At_app w1
  simp only [ByteArray.size_append, bytesB_size] at w2 w3
  have hsz : s3.size = 2 + (imgsB l9).size := by rw [hs]; simp only [ByteArray.size_append, bytesB_size]
  have r1 : pack_Reader_Num.f s3 0 0 1 = some ((m : Int), s3, ((1 : Nat) : Int), 0) := kind_at w1 hm hz
  have r2 := num_at' (q := 2) w2 (by omega) (by omega) (by omega) hn2 rfl
  have r2 : pack_Reader_Num.f s3 ((1 : Nat) : Int) 0 1 = some ((l9.length : Int), s3, ((2 : Nat) : Int), 0) := r2
  have r3 := readImages_at (by omega) l9 [] 2 300 w3 hok (by simp; omega) (by omega)
  have r3 : rec_readImages.l0 300 [] (l9.length : Int) 0 s3 ((2 : Nat) : Int) 0 = some (l9, s3, ((2 + (imgsB l9).size : Nat) : Int), 0) := by
    have e0 : ((([] : List S144).length + l9.length : Nat) : Int) = (l9.length : Int) := by simp
    rw [e0] at r3
    exact r3
  subst hm0
  unfold rec_Of.f
  rw [r1, Option.bind_some]
  dsimp only
  rw [if_pos rfl, if_pos hK]
  unfold rec_readImages.f
  rw [r2, Option.bind_some]
  dsimp only
  rw [r3, Option.bind_some]
  exact ofTail_end hb hz hsz.symm
end Go.Proofs.YteoebfiacnploaaGreat.HRec
