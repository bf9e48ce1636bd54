/- Texts of this proof, put together: SayS, SayU. They prove no statement. -/
import Derived.Test.YteoebfiacnploaaGreatDoorQG15
import Derived.Test.YteoebfiacnploaaGreatDoorQG14
namespace Go.Proofs.YteoebfiacnploaaGreatDoor.HRec
open Go.RowKit Go.Proofs.YteoebfiacnploaaGreatDoorW.PrintWords Go.Proofs.YteoebfiacnploaaGreatDoorW.PrintLast Go.Proofs.YteoebfiacnploaaGreatDoorW.PrintMore
set_option linter.unusedVariables false
set_option linter.unusedSimpArgs false
theorem clean_rows {x0 x1 x2 x3 x4 : Int} {k o n : ByteArray} {x8 : Int} {l9 : List S144} {l10 : List S36} {x11 x12 : Int} {y : RecT} (hy : cleanR x0 x1 x2 x3 x4 k o n x8 l9 l10 x11 x12 = y) :
    y.1 = x0 ∧ (y.1 = 1 ∨ y.1 = 2 ∨ y.2.2.2.2.2.2.2.2.2.1 = []) ∧ (y.1 = 9 ∨ y.2.2.2.2.2.2.2.2.2.2.1 = []) := by
  subst hy
  unfold cleanR
  split
  · rename_i h; exact ⟨rfl, by rcases h with h | h <;> simp [h], .inr rfl⟩
  split
  · exact ⟨rfl, .inr (.inr rfl), .inr rfl⟩
  split
  · exact ⟨rfl, .inr (.inr rfl), .inr rfl⟩
  split
  · exact ⟨rfl, .inr (.inr rfl), .inr rfl⟩
  split
  · rename_i h; exact ⟨rfl, .inr (.inr rfl), .inl h⟩
  split
  · exact ⟨rfl, .inr (.inr rfl), .inr rfl⟩
  · exact ⟨rfl, .inr (.inr rfl), .inr rfl⟩
/-- What can be laid is of a kind from 1 to 10. -/
theorem body_kind {x0 x1 x2 x3 x4 : Int} {k o n : ByteArray} {x8 : Int} {l9 : List S144} {l10 : List S36} {x11 x12 : Int} {b : ByteArray} (h : rec_body.f x0 x1 x2 x3 x4 k o n x8 l9 l10 x11 x12 = some (b, 0)) : 1 ≤ x0 ∧ x0 ≤ 10 := by
  unfold rec_body.f at h
  obtain ⟨_, _, h⟩ := Option.bind_eq_some_iff.mp h
  by_cases hk : 1 ≤ x0 ∧ x0 ≤ 10
  · exact hk
  · rw [if_neg (by omega), if_neg (by omega), if_neg (by omega), if_neg (by omega), if_neg (by omega), if_neg (by omega), if_neg (by omega)] at h
    exact absurd h (by simp)
theorem text_sm (k : Nat) (s : ByteArray) (p e a : Int) (h : RdOk s p) : ∃ t p' e', pack_Reader_Text.f (k + 1) s p e a = some (t, s, p', e') ∧ RdOk s p' ∧ t.size ≤ s.size := by
  obtain ⟨n, p1, e1, hn, h1, _⟩ := num_tot s p e 2 h
  unfold pack_Reader_Text.f pack_Reader_off.f
  rw [hn, Option.bind_some]
  dsimp only
  rw [Option.bind_some]
  dsimp only
  have go : ∀ b, ∃ t p' e', pack_Reader_Text.j0 (k + 1) n b s p1 e1 = some (t, s, p', e') ∧ RdOk s p' ∧ t.size ≤ s.size := by
    intro b
    unfold pack_Reader_Text.j0 pack_Reader_fail.f
    dsimp only
    cases b
    · obtain ⟨t, p2, e2, hr, h2, h3, _⟩ := raw_tot s p1 e1 n h1
      rw [if_neg (by decide), hr, Option.bind_some]
      exact ⟨_, _, _, rfl, h2, h3⟩
    · rw [if_pos rfl]
      by_cases he : e1 = 0
      · obtain ⟨t, p2, e2, hr, h2, h3, _⟩ := raw_tot s p1 3 n h1
        rw [if_pos he, Option.bind_some]
        dsimp only
        rw [hr, Option.bind_some]
        exact ⟨_, _, _, rfl, h2, h3⟩
      · obtain ⟨t, p2, e2, hr, h2, h3, _⟩ := raw_tot s p1 e1 n h1
        rw [if_neg he, Option.bind_some]
        dsimp only
        rw [hr, Option.bind_some]
        exact ⟨_, _, _, rfl, h2, h3⟩
  by_cases hb : (e1 != 0) = true
  · rw [if_pos hb]; exact go _
  · rw [if_neg hb]; exact go _
theorem textIf_sm (k : Nat) (yes : Bool) (old s : ByteArray) (p e most : Int) (h : RdOk s p) (ho : old.size ≤ s.size) : ∃ t p' e', textIf (k + 1) yes old s p e most = some (t, s, p', e') ∧ RdOk s p' ∧ t.size ≤ s.size := by
  unfold textIf
  cases yes
  · exact ⟨_, _, _, rfl, h, ho⟩
  · exact text_sm k s p e most h
theorem readChange_sm (k : Nat) (s : ByteArray) (p e act : Int) (h : RdOk s p) : ∃ x t1 t2 t3 p' e', rec_readChange.f (k + 1) s p e act ⟨#[]⟩ ⟨#[]⟩ = some (x, t1, t2, t3, s, p', e') ∧ RdOk s p' ∧ t1.size ≤ s.size ∧ t2.size ≤ s.size ∧ t3.size ≤ s.size := by
  have e0 : (⟨#[]⟩ : ByteArray).size ≤ s.size := Nat.zero_le _
  obtain ⟨n1, p1, e1, hn1, h1, _⟩ := num_tot s p e 2 h
  obtain ⟨t2, p2, e2, hn2, h2, z2⟩ := text_sm k s p1 e1 16 h1
  obtain ⟨t3, p3, e3, hn3, h3, z3⟩ := textIf_sm k (act != 3) ⟨#[]⟩ s p2 e2 32 h2 e0
  obtain ⟨t4, p4, e4, hn4, h4, z4⟩ := textIf_sm k (act != 4) ⟨#[]⟩ s p3 e3 32 h3 e0
  unfold rec_readChange.f
  simp only [hn1, hn2, hn3, hn4, Option.bind_some]
  exact ⟨_, _, _, _, _, _, rfl, h4, z2, z3, z4⟩
/-- A record of few and short parts. -/
def Small (y : OfT) : Prop := y.2.2.2.2.2.1.size ≤ 1000000 ∧ y.2.2.2.2.2.2.1.size ≤ 1000000 ∧ y.2.2.2.2.2.2.2.1.size ≤ 1000000 ∧ y.2.2.2.2.2.2.2.2.2.1.length ≤ 300 ∧ y.2.2.2.2.2.2.2.2.2.2.1.length ≤ 300
theorem noRec_small (e : Int) : Small (noRec e) := ⟨Nat.zero_le _, Nat.zero_le _, Nat.zero_le _, Nat.zero_le _, Nat.zero_le _⟩
theorem tail_small {s : ByteArray} {st : RdT} {x0 x1 x2 x3 x4 : Int} {k o n : ByteArray} {x8 : Int} {l9 : List S144} {l10 : List S36} {x11 x12 : Int} {y : OfT} (h : ofTail s st x0 x1 x2 x3 x4 k o n x8 l9 l10 x11 x12 = some y) (hk : k.size ≤ 1000000) (ho : o.size ≤ 1000000) (hn : n.size ≤ 1000000) (h9 : l9.length ≤ 300) (h10 : l10.length ≤ 300) : Small y := by
  unfold ofTail at h
  obtain ⟨a, qa, h⟩ := Option.bind_eq_some_iff.mp h
  by_cases ha : a.1 = 0
  · rw [if_pos ha] at h
    obtain ⟨⟨b, e⟩, qb, h⟩ := Option.bind_eq_some_iff.mp h
    dsimp only at h
    split at h
    · split at h
      · obtain rfl := Option.some.inj h
        exact ⟨hk, ho, hn, h9, h10⟩
      · obtain rfl := Option.some.inj h
        exact noRec_small _
    · obtain rfl := Option.some.inj h
      exact noRec_small _
  · rw [if_neg ha] at h
    obtain rfl := Option.some.inj h
    exact noRec_small _
theorem of_small {s : ByteArray} (hs : s.size ≤ 1000000) {y : OfT} (h : rec_Of.f s = some y) : Small y := by
  have e0 : (⟨#[]⟩ : ByteArray).size ≤ 1000000 := Nat.zero_le _
  have n9 : ([] : List S144).length ≤ 300 := Nat.zero_le _
  have n10 : ([] : List S36).length ≤ 300 := Nat.zero_le _
  unfold rec_Of.f at h
  obtain ⟨a, p1, e1, q1, h1, _⟩ := num_tot s 0 0 1 ⟨by omega, by omega, hs⟩
  rw [q1, Option.bind_some] at h
  dsimp only at h
  split at h
  · split at h
    · obtain ⟨l, p2, e2, q2, h2, z2⟩ := readImages_tot s p1 e1 h1
      rw [q2, Option.bind_some] at h
      exact tail_small h e0 e0 e0 z2 n10
    split at h
    · obtain ⟨b, p2, e2, q2, h2, _⟩ := num_tot s p1 e1 6 h1
      obtain ⟨c, p3, e3, q3, h3, _⟩ := num_tot s p2 e2 6 h2
      obtain ⟨d, p4, e4, q4, h4, _⟩ := num_tot s p3 e3 6 h3
      obtain ⟨u, p5, e5, q5, h5, _⟩ := num_tot s p4 e4 1 h4
      obtain ⟨x, t1, t2, t3, p6, e6, q6, h6, z1, z2, z3⟩ := readChange_sm 4 s p5 e5 u h5
      simp only [q2, q3, q4, q5, q6, Option.bind_some] at h
      exact tail_small h (by omega) (by omega) (by omega) n9 n10
    split at h
    · obtain ⟨b, p2, e2, q2, h2, _⟩ := num_tot s p1 e1 6 h1
      obtain ⟨c, p3, e3, q3, h3, _⟩ := num_tot s p2 e2 6 h2
      obtain ⟨x, t1, t2, t3, p6, e6, q6, h6, z1, z2, z3⟩ := readChange_sm 4 s p3 e3 a h3
      simp only [q2, q3, q6, Option.bind_some] at h
      exact tail_small h (by omega) (by omega) (by omega) n9 n10
    split at h
    · obtain ⟨b, p2, e2, q2, h2, _⟩ := num_tot s p1 e1 6 h1
      obtain ⟨c, p3, e3, q3, h3, _⟩ := num_tot s p2 e2 6 h2
      simp only [q2, q3, Option.bind_some] at h
      exact tail_small h e0 e0 e0 n9 n10
    split at h
    · obtain ⟨l, p2, e2, q2, h2, z2⟩ := readTable_tot s p1 e1 h1
      rw [q2, Option.bind_some] at h
      exact tail_small h e0 e0 e0 n9 z2
    split at h
    · obtain ⟨b, p2, e2, q2, h2, _⟩ := num_tot s p1 e1 4 h1
      obtain ⟨c, p3, e3, q3, h3, _⟩ := num_tot s p2 e2 1 h2
      simp only [q2, q3, Option.bind_some] at h
      exact tail_small h e0 e0 e0 n9 n10
    · exact tail_small h e0 e0 e0 n9 n10
  · obtain rfl := Option.some.inj h
    exact noRec_small _
theorem extract_le (s : ByteArray) (a b : Nat) : (s.extract a b).size ≤ s.size := by
  rw [ByteArray.size_extract]
  omega
theorem read_small {all : ByteArray} {lsn : Int} {r : Int × Int × Int × Int × Int × ByteArray × ByteArray × ByteArray × Int × List S144 × List S36 × Int × Int × Int × Int} (h : readF 5 all lsn = some r) (he : r.2.2.2.2.2.2.2.2.2.2.2.2.2.2 = 0) (hs : all.size ≤ 11600) :
    (r.2.2.2.2.2.1.size ≤ 1000000 ∧ r.2.2.2.2.2.2.1.size ≤ 1000000 ∧ r.2.2.2.2.2.2.2.1.size ≤ 1000000 ∧ r.2.2.2.2.2.2.2.2.2.1.length ≤ 300 ∧ r.2.2.2.2.2.2.2.2.2.2.1.length ≤ 300) := by
  unfold readF at h
  obtain ⟨q, hq, h⟩ := Option.bind_eq_some_iff.mp h
  by_cases hc : q.2.2.2.2.2.2.2.2.2.2.2.2.2.2 = 0
  · rw [if_pos hc] at h
    simp only [Option.some.injEq] at h
    subst h
    dsimp only
    clear he
    have j1 : ∀ (k : Nat) (T : ByteArray) (x7 : Int) (b : Bool), T.size ≤ 11600 → rec_Open.j1 k T x7 b = some q → (q.2.2.2.2.2.1.size ≤ 1000000 ∧ q.2.2.2.2.2.2.1.size ≤ 1000000 ∧ q.2.2.2.2.2.2.2.1.size ≤ 1000000 ∧ q.2.2.2.2.2.2.2.2.2.1.length ≤ 300 ∧ q.2.2.2.2.2.2.2.2.2.2.1.length ≤ 300) := by
      intro k T x7 b hT hj
      cases k with
      | zero => exact absurd hj (by simp [rec_Open.j1])
      | succ k =>
        rw [rec_Open.j1] at hj
        split at hj
        · simp only [Option.some.injEq] at hj; subst hj; exact absurd hc (by decide)
        split at hj
        · simp only [Option.some.injEq] at hj; subst hj; exact absurd hc (by decide)
        split at hj
        · split at hj
          · obtain ⟨z, hz, hj⟩ := Option.bind_eq_some_iff.mp hj
            have hl := extract_le T 2 (wrap64 (6 + x7)).toNat
            obtain ⟨t, e, q1, q2⟩ := sumOpen_tot (T.extract 2 (wrap64 (6 + x7)).toNat) (by omega)
            rw [q1] at hz
            obtain rfl := Option.some.inj hz
            split at hj
            · obtain ⟨y, hy, hj⟩ := Option.bind_eq_some_iff.mp hj
              split at hj
              · rename_i hy0
                simp only [Option.some.injEq] at hj
                subst hj
                exact of_small (by dsimp only; omega) hy
              · rename_i hy0
                simp only [Option.some.injEq] at hj; subst hj; exact absurd hc hy0
            · rename_i hy0
              simp only [Option.some.injEq] at hj; subst hj; exact absurd hc hy0
          · exact absurd hj (by simp)
        · exact absurd hj (by simp)
    have j0 : ∀ (k : Nat) (x1 : Int) (b : Bool), rec_Open.j0 k all x1 b = some q → (q.2.2.2.2.2.1.size ≤ 1000000 ∧ q.2.2.2.2.2.2.1.size ≤ 1000000 ∧ q.2.2.2.2.2.2.2.1.size ≤ 1000000 ∧ q.2.2.2.2.2.2.2.2.2.1.length ≤ 300 ∧ q.2.2.2.2.2.2.2.2.2.2.1.length ≤ 300) := by
      intro k x1 b hj
      cases k with
      | zero => exact absurd hj (by simp [rec_Open.j0])
      | succ k =>
        rw [rec_Open.j0] at hj
        have hl := extract_le all x1.toNat all.size
        split at hj
        · simp only [Option.some.injEq] at hj; subst hj; exact absurd hc (by decide)
        split at hj
        · split at hj
          · split at hj
            · simp only [Option.some.injEq] at hj; subst hj; exact absurd hc (by decide)
            · obtain ⟨z, hz, hj⟩ := Option.bind_eq_some_iff.mp hj
              obtain ⟨y, hy, hj⟩ := Option.bind_eq_some_iff.mp hj
              split at hj
              · exact j1 _ _ _ _ (by omega) hj
              · exact j1 _ _ _ _ (by omega) hj
          · exact absurd hj (by simp)
        · exact absurd hj (by simp)
    unfold rec_Open.f at hq
    split at hq
    · exact j0 _ _ _ hq
    · exact j0 _ _ _ hq
  · rw [if_neg hc] at h
    simp only [Option.some.injEq] at h
    subst h
    exact absurd he hc
/-- A record that can be read. -/
def Fit (y : RecT) : Prop := (1 ≤ y.1 ∧ y.1 ≤ 10) ∧ y.2.2.2.2.2.1.size ≤ 1000000 ∧ y.2.2.2.2.2.2.1.size ≤ 1000000 ∧ y.2.2.2.2.2.2.2.1.size ≤ 1000000 ∧ y.2.2.2.2.2.2.2.2.2.1.length ≤ 300 ∧ y.2.2.2.2.2.2.2.2.2.2.1.length ≤ 300
theorem recsL_fit (all : ByteArray) (hs : all.size ≤ 11600) : ∀ (k : Nat) (rs : List RecT) (ps : List Int) (lsn : Int) (R : List RecT) (S : List Int), recsL k all rs ps lsn = some (R, S) → (∀ y ∈ rs, Fit y) → rs.length = ps.length → (∀ y ∈ R, Fit y) ∧ R.length = S.length ∧ R.length ≤ rs.length + k
  | 0, _, _, _, _, _, h, _, _ => absurd h (by simp [recsL])
  | k + 1, rs, ps, lsn, R, S, h, hf, hl => by
    unfold recsL at h
    by_cases hc : lsn ≤ (all.size : Int)
    · rw [if_pos hc] at h
      obtain ⟨r, hr, h⟩ := Option.bind_eq_some_iff.mp h
      by_cases he : r.2.2.2.2.2.2.2.2.2.2.2.2.2.2 = 0
      · rw [if_pos he] at h
        obtain ⟨⟨b, hb⟩, _⟩ := read_body hr he
        have hk := body_kind hb; have hsm := read_small hr he hs
        have := recsL_fit all hs k _ _ _ R S h (fun y hy => by
          rcases List.mem_append.mp hy with hy | hy
          · exact hf y hy
          · obtain rfl := List.mem_singleton.mp hy
            exact ⟨hk, hsm⟩) (by simp [hl])
        refine ⟨this.1, this.2.1, ?_⟩
        have h2 := this.2.2
        rw [List.length_append, List.length_singleton] at h2
        omega
      · rw [if_neg he] at h
        simp only [Option.some.injEq, Prod.mk.injEq] at h
        obtain ⟨rfl, rfl⟩ := h
        exact ⟨hf, hl, by omega⟩
    · rw [if_neg hc] at h
      simp only [Option.some.injEq, Prod.mk.injEq] at h
      obtain ⟨rfl, rfl⟩ := h
      exact ⟨hf, hl, by omega⟩
theorem recsF_fit (all : ByteArray) (hs : all.size ≤ 11600) : (∀ y ∈ (recsF all).1, Fit y) ∧ (recsF all).1.length = (recsF all).2.length ∧ (recsF all).1.length ≤ 11700 := by
  have := recsL_fit all hs 11700 [] [] 1 _ _ (recsF_eq all hs) (fun y hy => absurd hy List.not_mem_nil) rfl
  exact ⟨this.1, this.2.1, by have := this.2.2; simp at this; omega⟩
end Go.Proofs.YteoebfiacnploaaGreatDoor.HRec
namespace Go.Proofs.YteoebfiacnploaaGreatDoor.HRec
open Go.RowKit Go.Proofs.YteoebfiacnploaaGreatDoorW.PrintWords Go.Proofs.YteoebfiacnploaaGreatDoorW.PrintLast Go.Proofs.YteoebfiacnploaaGreatDoorW.PrintMore Go.Proofs.YteoebfiacnploaaGreatDoor.SayPure
set_option linter.unusedVariables false
set_option linter.unusedSimpArgs false
/-- Words appended to the call's own row of words; a row of numbers beside it stays. -/
theorem words_opP {ops : Array Oper} {rest : List Oper} {o : Oper} {a : Act} {Q : Exit → Act → World → Prop} {w0 W : World} (hgd : o.guard = none) (s x : Operand) (ho : o.op = .call { callee := .builtin .append, args := #[s, x], argTypes := #[70, 70] })
    (v : Value) (xs ys : List ByteArray) (A : Option Addr) (m c : Nat) (hs : a.eval s = v) (hx : a.eval x = .slice A m c) (pv : Value) (ps : List Int)
    (HO : Kd.R Kd.string 9 W w0.heap.size (fun _ => True) v xs) (HP : Kd.R (Kd.int .i64) 3 W 0 (fun k => some k ≠ v.ownBlock) pv ps) (HR : Kd.C Kd.string W A m ys) (HB : Below w0.heap.size w0 W) (hl : (xs.length + m) * 16 ≤ 140737488355328)
    (h : ∀ v1 w1, Kd.R Kd.string 9 w1 w0.heap.size (fun _ => True) v1 (xs ++ ys) → Kd.R (Kd.int .i64) 3 w1 0 (fun k => some k ≠ v1.ownBlock) pv ps → Below w0.heap.size w0 w1 → wpList Tryz.prog ops Q rest (a.put o.dst v1) w1) :
    wpList Tryz.prog ops Q (o :: rest) a W :=
  Kd.R_append_rows Kd.string (w0 := w0) w0.heap.size hgd s x 70 9 (.string ⟨#[]⟩) 16 ho Tryz.underlying70 info_s rfl (by decide) (by omega) v xs ys A m c (fun _ => True) (fun _ => False) hs hx HO HR (fun _ _ h => h) (fun _ h => h.elim) (fun _ _ => trivial) HB (below_size HB) hl (fun v1 w1 h1 h2 hg hat => h v1 w1 h1 (by
    refine Kd.R_mono (Kd.R_grown (Kd.R_bound HP) hg (fun k hk => hk.1)) (fun k hk => ?_)
    rcases hat with hat | ⟨b, hb, hle⟩
    · rw [hat]; exact hk.1
    · rw [hb]; intro he; injection he with he; have := hk.2.2.1; omega) h2)
theorem wA_take (l : List S36) (i : Int) (h0 : 0 ≤ i) (hi : i < l.length) : wA (l.take (i + 1).toNat) = wA (l.take i.toNat) ++ [lowB (rd_T36 l i).f0, lowB (rd_T36 l i).f1] := by
  have h : i.toNat < l.length := by omega
  rw [show (i + 1).toNat = i.toNat + 1 from by omega, List.take_add_one]
  unfold wA rd_T36
  rw [List.flatMap_append, List.getD_eq_getElem?_getD, List.getElem?_eq_getElem h]
  simp
theorem pages_take (ps : List Int) (i : Int) (h0 : 0 ≤ i) (hi : i < ps.length) : (ps.take (i + 1).toNat).map lowB = (ps.take i.toNat).map lowB ++ [lowB (rdOf 0 ps i)] := by
  have h : i.toNat < ps.length := by omega
  rw [show (i + 1).toNat = i.toNat + 1 from by omega, List.take_add_one, List.map_append]
  unfold rdOf
  rw [List.getD_eq_getElem?_getD, List.getElem?_eq_getElem h]
  rfl
theorem wC_len (p : Int) (k o n : ByteArray) (act : Int) : (wC p k o n act).length ≤ 7 := by
  unfold wC
  simp only [List.length_append]
  split <;> split <;> simp
theorem wA_len (l : List S36) : (wA l).length = 2 * l.length := by
  induction l with
  | nil => rfl
  | cons a l ih =>
    show ([lowB a.f0, lowB a.f1] ++ wA l).length = _
    rw [List.length_append, ih, List.length_cons]
    simp only [List.length_cons, List.length_nil]
    omega
theorem lineW_len (y0 y1 y2 y3 y4 : Int) (k o n : ByteArray) (y8 : Int) (l9 : List S144) (l10 : List S36) (y11 y12 : Int) (h9 : l9.length ≤ 300) (h10 : l10.length ≤ 300) : (lineW y0 y1 y2 y3 y4 k o n y8 l9 l10 y11 y12).length ≤ 1000 := by
  unfold lineW
  simp only [List.length_append, wA_len]
  have a1 : (wT y1 y2).length ≤ 4 := by unfold wT; split <;> simp
  have a2 : (wI l9).length ≤ 300 := by unfold wI; rw [List.length_map]; exact h9
  have a3 : (wCk y0 y3 k o n).length ≤ 7 := by unfold wCk; split; exact wC_len _ _ _ _ _; simp
  have a4 : (wU y0 y3 y4 y8 k o n).length ≤ 10 := by
    unfold wU; split
    · have := wC_len y3 k o n y4
      rw [List.length_append]; simp only [List.length_cons, List.length_nil]; omega
    · simp
  have a5 : (wE y0 y11 y12).length ≤ 2 := by unfold wE; split <;> simp
  simp only [List.length_cons, List.length_nil]
  omega
theorem wC_size (p : Int) (k o n : ByteArray) (act : Int) (hk : k.size ≤ 1000000) (ho : o.size ≤ 1000000) (hn : n.size ≤ 1000000) : ∀ w ∈ wC p k o n act, w.size ≤ 3000100 := by
  have h1 := lowB_size p; have h2 := mkW_size k; have h3 := mkW_size o; have h4 := mkW_size n
  have e1 : (⟨#[112, 97, 103, 101]⟩ : ByteArray).size = 4 := rfl
  have e2 : (⟨#[111, 108, 100]⟩ : ByteArray).size = 3 := rfl
  have e3 : (⟨#[110, 101, 119]⟩ : ByteArray).size = 3 := rfl
  intro w hw
  unfold wC at hw
  rcases List.mem_append.1 hw with hw | hw
  · rcases List.mem_append.1 hw with hw | hw
    · simp only [List.mem_cons, List.not_mem_nil, or_false] at hw
      rcases hw with rfl | rfl | rfl <;> omega
    · split at hw
      · cases hw
      · simp only [List.mem_cons, List.not_mem_nil, or_false] at hw
        rcases hw with rfl | rfl <;> omega
  · split at hw
    · cases hw
    · simp only [List.mem_cons, List.not_mem_nil, or_false] at hw
      rcases hw with rfl | rfl <;> omega
theorem lineW_size (y0 y1 y2 y3 y4 : Int) (k o n : ByteArray) (y8 : Int) (l9 : List S144) (l10 : List S36) (y11 y12 : Int) (hk : k.size ≤ 1000000) (ho : o.size ≤ 1000000) (hn : n.size ≤ 1000000) : ∀ w ∈ lineW y0 y1 y2 y3 y4 k o n y8 l9 l10 y11 y12, w.size ≤ 3000100 := by
  intro w hw
  unfold lineW at hw
  simp only [List.mem_append] at hw
  have e1 : (⟨#[116, 120, 110]⟩ : ByteArray).size = 3 := rfl
  have e2 : (⟨#[112, 114, 101, 118]⟩ : ByteArray).size = 4 := rfl
  have e3 : (⟨#[110, 101, 120, 116]⟩ : ByteArray).size = 4 := rfl
  rcases hw with (((((hw | hw) | hw) | hw) | hw) | hw) | hw
  · have := nameB_size y0
    obtain rfl := List.mem_singleton.1 hw
    omega
  · unfold wT at hw
    split at hw
    · have h1 := lowB_size y1
      have h2 := lowB_size y2
      simp only [List.mem_cons, List.not_mem_nil, or_false] at hw
      rcases hw with rfl | rfl | rfl | rfl <;> omega
    · cases hw
  · unfold wI at hw
    obtain ⟨m, _, rfl⟩ := List.mem_map.1 hw
    have := lowB_size m.f0
    omega
  · unfold wA at hw
    obtain ⟨m, _, hw⟩ := List.mem_flatMap.1 hw
    have h1 := lowB_size m.f0; have h2 := lowB_size m.f1
    simp only [List.mem_cons, List.not_mem_nil, or_false] at hw
    rcases hw with rfl | rfl <;> omega
  · unfold wCk at hw
    split at hw
    · exact wC_size _ _ _ _ _ hk ho hn w hw
    · cases hw
  · unfold wU at hw
    split at hw
    · rcases List.mem_append.1 hw with hw | hw
      · have h1 := lowB_size y8
        have h2 := nameB_size y4
        simp only [List.mem_cons, List.not_mem_nil, or_false] at hw
        rcases hw with rfl | rfl | rfl <;> omega
      · exact wC_size _ _ _ _ _ hk ho hn w hw
    · cases hw
  · unfold wE at hw
    split at hw
    · have h1 := lowB_size y11
      have h2 := lowB_size y12
      simp only [List.mem_cons, List.not_mem_nil, or_false] at hw
      rcases hw with rfl | rfl <;> omega
    · cases hw
/-- The line's size. -/
theorem lineB_size (y0 y1 y2 y3 y4 : Int) (k o n : ByteArray) (y8 : Int) (l9 : List S144) (l10 : List S36) (y11 y12 q : Int) (hk : k.size ≤ 1000000) (ho : o.size ≤ 1000000) (hn : n.size ≤ 1000000) (h9 : l9.length ≤ 300) (h10 : l10.length ≤ 300) : (lineB (y0, y1, y2, y3, y4, k, o, n, y8, l9, l10, y11, y12) q).size ≤ 4000000000 := by
  rw [lineB_join]
  have h1 := join_size (lineW y0 y1 y2 y3 y4 k o n y8 l9 l10 y11 y12) (lowB q) 3000100 (lineW_size _ _ _ _ _ _ _ _ _ _ _ _ _ hk ho hn); have h2 := lineW_len y0 y1 y2 y3 y4 k o n y8 l9 l10 y11 y12 h9 h10; have h3 := lowB_size q
  omega
/-- strings.Join of a line's words. -/
theorem line_f (y0 y1 y2 y3 y4 : Int) (k o n : ByteArray) (y8 : Int) (l9 : List S144) (l10 : List S36) (y11 y12 q : Int) (hk : k.size ≤ 1000000) (ho : o.size ≤ 1000000) (hn : n.size ≤ 1000000) (h9 : l9.length ≤ 300) (h10 : l10.length ≤ 300) :
    Hook.strings_Join.f (([lowB q, nameB y0] ++ wT y1 y2) ++ (wI l9 ++ (wA l10 ++ (wCk y0 y3 k o n ++ (wU y0 y3 y4 y8 k o n ++ wE y0 y11 y12))))) ⟨#[32]⟩ = some (lineB (y0, y1, y2, y3, y4, k, o, n, y8, l9, l10, y11, y12) q) := by
  have e : ([lowB q, nameB y0] ++ wT y1 y2) ++ (wI l9 ++ (wA l10 ++ (wCk y0 y3 k o n ++ (wU y0 y3 y4 y8 k o n ++ wE y0 y11 y12)))) = lowB q :: lineW y0 y1 y2 y3 y4 k o n y8 l9 l10 y11 y12 := by
    unfold lineW
    simp only [List.append_assoc, List.cons_append, List.nil_append]
  have h1 := lineB_size y0 y1 y2 y3 y4 k o n y8 l9 l10 y11 y12 q hk ho hn h9 h10; have h2 := lineW_len y0 y1 y2 y3 y4 k o n y8 l9 l10 y11 y12 h9 h10
  rw [lineB_join] at h1 ⊢
  rw [e]
  exact join_f _ _ (by omega) (by omega)
end Go.Proofs.YteoebfiacnploaaGreatDoor.HRec
