/- Texts of this proof, put together: RedoC, PureTxn, PureEach. They prove no statement. -/
import Derived.Test.YteoebfiacnploaaGreatQG18
import Derived.Test.YteoebfiacnploaaGreatQG3
import Derived.Test.YteoebfiacnploaaGreatQG15
namespace Go.Proofs.YteoebfiacnploaaGreat.HRec
open Go.RowKit Go.Proofs.YteoebfiacnploaaGreatW.PrintWords Go.Proofs.YteoebfiacnploaaGreatW.PrintLast Go.Proofs.YteoebfiacnploaaGreatW.PrintMore
set_option linter.unusedVariables false
set_option linter.unusedSimpArgs false
/-- What a record at a place makes of the table of who goes on. -/
def stepT (l : List S36) (x0 x1 at_ : Int) : List S36 := if x0 = 7 ∨ x0 = 8 then dropS l x1 else if x0 = 3 ∨ x0 = 4 ∨ x0 = 5 ∨ x0 = 6 then putS l x1 at_ else l
theorem below_grown {w0 W W' : World} {m : Nat} (h : Below w0.heap.size w0 W) (hg : W.grownBy W' (some m)) (hm : w0.heap.size ≤ m) : Below w0.heap.size w0 W' :=
  ⟨hg.os.trans h.os, hg.tape.trans h.tape, hg.output.trans h.output, Nat.le_trans h.size hg.size, fun k hk => (hg.block k (Nat.lt_of_lt_of_le hk h.size) (fun e => by injection e with e; omega)).trans (h.block k hk)⟩
theorem TblAt.more {W : World} {m n n' : Nat} {l : List S36} (h : TblAt W m n l) (hn : n ≤ n') : TblAt W m n' l := World.ownsMap.mono h hn
set_option maxHeartbeats 32000000 in
set_option maxRecDepth 100000 in
theorem tab_fn (B m nn : Nat) (l : List S36) (x0 x1 x2 x3 x4 : Int) (k o n : ByteArray) (x8 : Int) (A9 : Option Addr) (n9 c9 : Nat) (A10 : Option Addr) (n10 c10 : Nat) (x11 x12 at_ : Int) (w0 w : World) (hB : w.cell? ⟨B, 0, none⟩ = some (.map (some m))) (h : TblAt w m nn l) (hr : Rising l) (ht0 : 0 ≤ x1) (ht1 : x1 < 9223372036854775808) (ha0 : 0 ≤ at_) (ha1 : at_ < 9223372036854775808) (hn : nn < maxLen) (hb : Below w0.heap.size w0 w) (hm0 : w0.heap.size ≤ m) :
    Calls Tryz.prog 24 #[.agg #[.int .i64 x0, .int .i64 x1, .int .i64 x2, .int .i64 x3, .int .i64 x4, .string k, .string o, .string n, .int .i64 x8, .slice A9 n9 c9, .slice A10 n10 c10, .int .i64 x11, .int .i64 x12], .int .i64 at_, .pointer (some ⟨B, 0, none⟩)] w fun e w' => e = .returned (.int .i64 0) ∧ TblAt w' m (nn + 1) (stepT l x0 x1 at_) ∧ Below w0.heap.size w0 w' ∧ w.heap.size ≤ w'.heap.size ∧ ∀ i, i < w.heap.size → i ≠ m → w'.heap[i]? = w.heap[i]? := by
  have hu32 := Tryz.underlying32
  obtain ⟨O, hO⟩ : ∃ O : Obj, O = (.cells #[.int .i64 x0, .int .i64 x1, .int .i64 x2, .int .i64 x3, .int .i64 x4, .string k, .string o, .string n, .int .i64 x8, .slice A9 n9 c9, .slice A10 n10 c10, .int .i64 x11, .int .i64 x12] 32) := ⟨_, rfl⟩
  have hal := below_alloc (Below.refl w.heap.size w) O; have hc := below_cell hal hB; have hT := TblAt.kept h hal; have hb1 := below_alloc hb O
  have fin : ∀ (W' : World) (l' : List S36), TblAt W' m (nn + 1) l' → (w.alloc O).grownBy W' (some m) → Aside0 (TblAt W' m (nn + 1) l' ∧ Below w0.heap.size w0 W' ∧ w.heap.size ≤ W'.heap.size ∧ ∀ i, i < w.heap.size → i ≠ m → W'.heap[i]? = w.heap[i]?) := fun W' l' h1 hg => ⟨h1, below_grown hb1 hg hm0, Nat.le_trans hal.size hg.size, fun i hi hne => (hg.block i (Nat.lt_of_lt_of_le hi hal.size) (fun e => by injection e with e; omega)).trans (hal.block i hi)⟩
  by_cases k1 : x0 = 7 ∨ x0 = 8
  · rw [show stepT l x0 x1 at_ = dropS l x1 from if_pos k1]
    obtain ⟨W', hrun, hT2, hg⟩ := TblAt.del hT ht0 ht1
    have HF := fin W' _ (TblAt.more hT2 (Nat.le_succ nn)) hg
    clear h hr hb hm0 hal hT hb1 hT2 hg fin
    rw [hO] at hrun hc
    clear hO
    rcases k1 with k1 | k1
    all_goals
      first | (have b7 : (x0 == 7) = true := by rw [k1]; rfl) | (have b7 : (x0 == 7) = false := by rw [k1]; rfl)
      first | (have b8 : (x0 == 8) = true := by rw [k1]; rfl) | (have b8 : (x0 == 8) = false := by rw [k1]; rfl)
      clear k1
      go_enter Tryz.func24, Tryz.ntmps24
      go_wp2_with fail
      go_ret
      exact ⟨rfl, HF.out⟩
  · have b7 : (x0 == 7) = false := beq_eq_false_iff_ne.mpr (by omega)
    have b8 : (x0 == 8) = false := beq_eq_false_iff_ne.mpr (by omega)
    by_cases k2 : x0 = 3 ∨ x0 = 4 ∨ x0 = 5 ∨ x0 = 6
    · rw [show stepT l x0 x1 at_ = putS l x1 at_ from (if_neg k1).trans (if_pos k2)]
      obtain ⟨W', hrun, hT2, hg⟩ := TblAt.put (a := at_) hT hr ht0 ht1 ha0 ha1 hn
      have HF := fin W' _ hT2 hg
      clear h hr hb hm0 hal hT hb1 hT2 hg fin k1
      rw [hO] at hrun hc
      clear hO
      rcases k2 with k2 | k2 | k2 | k2
      all_goals
        first | (have b3 : (x0 == 3) = true := by rw [k2]; rfl) | (have b3 : (x0 == 3) = false := by rw [k2]; rfl)
        first | (have b4 : (x0 == 4) = true := by rw [k2]; rfl) | (have b4 : (x0 == 4) = false := by rw [k2]; rfl)
        first | (have b5 : (x0 == 5) = true := by rw [k2]; rfl) | (have b5 : (x0 == 5) = false := by rw [k2]; rfl)
        first | (have b6 : (x0 == 6) = true := by rw [k2]; rfl) | (have b6 : (x0 == 6) = false := by rw [k2]; rfl)
        clear k2
        go_enter Tryz.func24, Tryz.ntmps24
        go_wp2_with fail
        go_ret
        exact ⟨rfl, HF.out⟩
    · rw [show stepT l x0 x1 at_ = l from (if_neg k1).trans (if_neg k2)]
      have b3 : (x0 == 3) = false := beq_eq_false_iff_ne.mpr (by omega)
      have b4 : (x0 == 4) = false := beq_eq_false_iff_ne.mpr (by omega)
      have b5 : (x0 == 5) = false := beq_eq_false_iff_ne.mpr (by omega)
      have b6 : (x0 == 6) = false := beq_eq_false_iff_ne.mpr (by omega)
      have HF : Aside0 (TblAt (w.alloc O) m (nn + 1) l ∧ Below w0.heap.size w0 (w.alloc O) ∧ w.heap.size ≤ (w.alloc O).heap.size ∧ ∀ i, i < w.heap.size → i ≠ m → (w.alloc O).heap[i]? = w.heap[i]?) := ⟨TblAt.more hT (Nat.le_succ nn), hb1, hal.size, fun i hi _ => hal.block i hi⟩
      clear h hr hb hm0 hal hT hb1 fin k1 k2
      rw [hO] at hc HF
      clear hO
      go_enter Tryz.func24, Tryz.ntmps24
      go_wp2_with fail
      go_ret
      exact ⟨rfl, HF.out⟩
end Go.Proofs.YteoebfiacnploaaGreat.HRec
namespace Go.Proofs.YteoebfiacnploaaGreat.HRec
open Go.RowKit Go.Proofs.YteoebfiacnploaaGreatW.PrintWords Go.Proofs.YteoebfiacnploaaGreatW.PrintLast Go.Proofs.YteoebfiacnploaaGreatW.PrintMore
set_option linter.unusedVariables false
set_option linter.unusedSimpArgs false
theorem body_txn {x0 x1 x2 x3 x4 : Int} {k o n : ByteArray} {x8 : Int} {l9 : List S144} {l10 : List S36} {x11 x12 : Int} {s : ByteArray} (hk : x0 = 3 ∨ x0 = 4 ∨ x0 = 5 ∨ x0 = 6 ∨ x0 = 7 ∨ x0 = 8) (h : rec_body.f x0 x1 x2 x3 x4 k o n x8 l9 l10 x11 x12 = some (s, 0)) : 0 ≤ x1 ∧ x1 < 281474976710656 := by
  unfold rec_body.f at h
  obtain ⟨⟨s1, e1⟩, q1, h⟩ := Option.bind_eq_some_iff.mp h
  dsimp only at h
  obtain ⟨a1, b1, g1, d1, _⟩ := wnum_tot ⟨#[]⟩ 0 x0 1 (by decide)
  rw [q1] at g1
  simp only [Option.some.injEq, Prod.mk.injEq] at g1
  obtain ⟨rfl, rfl⟩ := g1
  rw [empty_size] at d1
  have fin : ∀ s2, rec_link.f s1 e1 x0 x1 x2 x3 x4 k o n x8 l9 l10 x11 x12 = some (s2, 0) → 0 ≤ x1 ∧ x1 < 281474976710656 := by
    intro s2 q2
    obtain ⟨_, a, b, rfl, rfl, ha, _, _⟩ := link_val (by omega) q2
    exact ⟨by omega, by omega⟩
  by_cases h6 : x0 = 6
  · rw [if_neg (by omega), if_neg (by omega), if_pos h6] at h
    by_cases hx4 : 3 ≤ x4 ∧ x4 ≤ 5
    · rw [if_pos hx4] at h
      obtain ⟨ec, qc, h⟩ := Option.bind_eq_some_iff.mp h
      obtain ⟨⟨s2, e2⟩, q2, h⟩ := Option.bind_eq_some_iff.mp h
      dsimp only at h
      obtain ⟨⟨s5, e5⟩, q5, h⟩ := Option.bind_eq_some_iff.mp h
      dsimp only at h
      obtain ⟨⟨s6, e6⟩, q6, h⟩ := Option.bind_eq_some_iff.mp h
      dsimp only at h
      obtain ⟨⟨s3, e3⟩, q3, h⟩ := Option.bind_eq_some_iff.mp h
      simp only [Option.some.injEq] at h
      obtain ⟨rfl, rfl, rfl, hz⟩ := bodyTail_val h
      have r := change_alive q3
      subst r
      have r := wnum_alive q6
      subst r
      have r := wnum_alive q5
      subst r
      exact fin s2 q2
    · rw [if_neg hx4] at h
      simp at h
  · by_cases h3 : x0 = 3 ∨ x0 = 4 ∨ x0 = 5
    · rw [if_neg (by omega), if_neg (by omega), if_neg h6, if_pos h3] at h
      obtain ⟨ec, qc, h⟩ := Option.bind_eq_some_iff.mp h
      obtain ⟨⟨s2, e2⟩, q2, h⟩ := Option.bind_eq_some_iff.mp h
      dsimp only at h
      obtain ⟨⟨s3, e3⟩, q3, h⟩ := Option.bind_eq_some_iff.mp h
      simp only [Option.some.injEq] at h
      obtain ⟨rfl, rfl, rfl, hz⟩ := bodyTail_val h
      have r := change_alive q3
      subst r
      exact fin s2 q2
    · rw [if_neg (by omega), if_neg (by omega), if_neg h6, if_neg h3, if_pos (by omega)] at h
      obtain ⟨⟨s2, e2⟩, q2, h⟩ := Option.bind_eq_some_iff.mp h
      simp only [Option.some.injEq] at h
      obtain ⟨_, rfl, rfl, hz⟩ := bodyTail_val h
      exact fin s2 q2
end Go.Proofs.YteoebfiacnploaaGreat.HRec
namespace Go.Proofs.YteoebfiacnploaaGreat.HRec
open Go.RowKit Go.Proofs.YteoebfiacnploaaGreatW.PrintWords Go.Proofs.YteoebfiacnploaaGreatW.PrintLast Go.Proofs.YteoebfiacnploaaGreatW.PrintMore
set_option linter.unusedVariables false
set_option linter.unusedSimpArgs false
theorem body_tab {x1 x2 x3 x4 : Int} {k o n : ByteArray} {x8 : Int} {l9 : List S144} {l10 : List S36} {x11 x12 : Int} {s : ByteArray} (h : rec_body.f 9 x1 x2 x3 x4 k o n x8 l9 l10 x11 x12 = some (s, 0)) : l10.length < 256 ∧ ∀ x ∈ l10, actOk x := by
  unfold rec_body.f at h
  obtain ⟨⟨s1, e1⟩, q1, h⟩ := Option.bind_eq_some_iff.mp h
  dsimp only at h
  obtain ⟨a1, b1, g1, d1, _⟩ := wnum_tot ⟨#[]⟩ 0 9 1 (by decide)
  rw [q1] at g1
  simp only [Option.some.injEq, Prod.mk.injEq] at g1
  obtain ⟨rfl, rfl⟩ := g1
  rw [empty_size] at d1
  rw [if_neg (by decide), if_neg (by decide), if_neg (by decide), if_neg (by decide), if_neg (by decide), if_pos rfl] at h
  obtain ⟨⟨s2, e2⟩, q2, h⟩ := Option.bind_eq_some_iff.mp h
  dsimp only at h
  obtain ⟨⟨s3, e3⟩, q3, h⟩ := Option.bind_eq_some_iff.mp h
  simp only [Option.some.injEq] at h
  obtain ⟨_, rfl, rfl, hz⟩ := bodyTail_val h
  have r := tabF_alive l10 s2 e2 s3 q3
  subst r
  obtain ⟨_, n, v, hn, y2, _, _, hn2, hs2⟩ := wnum_val (by omega) q2
  obtain rfl : v = 1 := by omega
  obtain rfl : n = l10.length := by omega
  have hl : l10.length < 256 := by omega
  have hz2 : s2.size ≤ 1000 := by rw [hs2, ByteArray.size_append, bytesB_size]; omega
  exact ⟨hl, (tabF_val l10 s2 0 s3 q3 (by omega)).2.2⟩
theorem tail_body {s : ByteArray} {st : RdT} {x0 x1 x2 x3 x4 : Int} {k o n : ByteArray} {x8 : Int} {l9 : List S144} {l10 : List S36} {x11 x12 : Int} {y : OfT} (h : ofTail s st x0 x1 x2 x3 x4 k o n x8 l9 l10 x11 x12 = some y) (hy : y.2.2.2.2.2.2.2.2.2.2.2.2.2 = 0) :
    (∃ b, rec_body.f y.1 y.2.1 y.2.2.1 y.2.2.2.1 y.2.2.2.2.1 y.2.2.2.2.2.1 y.2.2.2.2.2.2.1 y.2.2.2.2.2.2.2.1 y.2.2.2.2.2.2.2.2.1 y.2.2.2.2.2.2.2.2.2.1 y.2.2.2.2.2.2.2.2.2.2.1 y.2.2.2.2.2.2.2.2.2.2.2.1 y.2.2.2.2.2.2.2.2.2.2.2.2.1 = some (b, 0)) ∧ y.1 = x0 ∧ y.2.1 = x1 := by
  unfold ofTail at h
  obtain ⟨a, qa, h⟩ := Option.bind_eq_some_iff.mp h
  by_cases ha : a.1 = 0
  · rw [if_pos ha] at h
    obtain ⟨⟨b, e⟩, qb, h⟩ := Option.bind_eq_some_iff.mp h
    dsimp only at h
    by_cases he : e = 0
    · subst he
      rw [if_pos rfl] at h
      by_cases ht : b.toList = s.toList
      · rw [if_pos ht] at h
        simp only [Option.some.injEq] at h
        subst h
        exact ⟨⟨b, qb⟩, rfl, rfl⟩
      · rw [if_neg ht] at h
        simp only [Option.some.injEq] at h
        subst h
        exact absurd hy (by decide)
    · rw [if_neg he] at h
      simp only [Option.some.injEq] at h
      subst h
      exact absurd hy (by decide)
  · rw [if_neg ha] at h
    simp only [Option.some.injEq] at h
    subst h
    exact absurd hy ha
theorem of_body {s : ByteArray} {y : OfT} (h : rec_Of.f s = some y) (hy : y.2.2.2.2.2.2.2.2.2.2.2.2.2 = 0) :
    (∃ b, rec_body.f y.1 y.2.1 y.2.2.1 y.2.2.2.1 y.2.2.2.2.1 y.2.2.2.2.2.1 y.2.2.2.2.2.2.1 y.2.2.2.2.2.2.2.1 y.2.2.2.2.2.2.2.2.1 y.2.2.2.2.2.2.2.2.2.1 y.2.2.2.2.2.2.2.2.2.2.1 y.2.2.2.2.2.2.2.2.2.2.2.1 y.2.2.2.2.2.2.2.2.2.2.2.2.1 = some (b, 0)) ∧ ((y.1 = 3 ∨ y.1 = 4 ∨ y.1 = 5 ∨ y.1 = 6 ∨ y.1 = 7 ∨ y.1 = 8) ∨ y.2.1 = 0) := by
  unfold rec_Of.f at h
  obtain ⟨a, qa, h⟩ := Option.bind_eq_some_iff.mp h
  by_cases ha : a.2.2.2 = 0
  · rw [if_pos ha] at h
    by_cases h1 : a.1 = 1 ∨ a.1 = 2
    · rw [if_pos h1] at h
      obtain ⟨_, _, h⟩ := Option.bind_eq_some_iff.mp h
      exact (tail_body h hy).elim (fun g1 g2 => ⟨g1, by have := g2.1; have := g2.2; omega⟩)
    rw [if_neg h1] at h
    by_cases h6 : a.1 = 6
    · rw [if_pos h6] at h
      obtain ⟨_, _, h⟩ := Option.bind_eq_some_iff.mp h
      obtain ⟨_, _, h⟩ := Option.bind_eq_some_iff.mp h
      obtain ⟨_, _, h⟩ := Option.bind_eq_some_iff.mp h
      obtain ⟨_, _, h⟩ := Option.bind_eq_some_iff.mp h
      obtain ⟨_, _, h⟩ := Option.bind_eq_some_iff.mp h
      exact (tail_body h hy).elim (fun g1 g2 => ⟨g1, by have := g2.1; have := g2.2; omega⟩)
    rw [if_neg h6] at h
    by_cases h3 : a.1 = 3 ∨ a.1 = 4 ∨ a.1 = 5
    · rw [if_pos h3] at h
      obtain ⟨_, _, h⟩ := Option.bind_eq_some_iff.mp h
      obtain ⟨_, _, h⟩ := Option.bind_eq_some_iff.mp h
      obtain ⟨_, _, h⟩ := Option.bind_eq_some_iff.mp h
      exact (tail_body h hy).elim (fun g1 g2 => ⟨g1, by have := g2.1; have := g2.2; omega⟩)
    rw [if_neg h3] at h
    by_cases h7 : a.1 = 7 ∨ a.1 = 8
    · rw [if_pos h7] at h
      obtain ⟨_, _, h⟩ := Option.bind_eq_some_iff.mp h
      obtain ⟨_, _, h⟩ := Option.bind_eq_some_iff.mp h
      exact (tail_body h hy).elim (fun g1 g2 => ⟨g1, by have := g2.1; have := g2.2; omega⟩)
    rw [if_neg h7] at h
    by_cases h9 : a.1 = 9
    · rw [if_pos h9] at h
      obtain ⟨_, _, h⟩ := Option.bind_eq_some_iff.mp h
      exact (tail_body h hy).elim (fun g1 g2 => ⟨g1, by have := g2.1; have := g2.2; omega⟩)
    rw [if_neg h9] at h
    by_cases h10 : a.1 = 10
    · rw [if_pos h10] at h
      obtain ⟨_, _, h⟩ := Option.bind_eq_some_iff.mp h
      obtain ⟨_, _, h⟩ := Option.bind_eq_some_iff.mp h
      exact (tail_body h hy).elim (fun g1 g2 => ⟨g1, by have := g2.1; have := g2.2; omega⟩)
    rw [if_neg h10] at h
    exact (tail_body h hy).elim (fun g1 g2 => ⟨g1, by have := g2.1; have := g2.2; omega⟩)
  · rw [if_neg ha] at h
    simp only [Option.some.injEq] at h
    subst h
    exact absurd hy ha
/-- Whatever is read at a place is a record that could be laid. -/
theorem read_body {all : ByteArray} {lsn : Int} {r : Int × Int × Int × Int × Int × ByteArray × ByteArray × ByteArray × Int × List S144 × List S36 × Int × Int × Int × Int} (h : readF 5 all lsn = some r) (he : r.2.2.2.2.2.2.2.2.2.2.2.2.2.2 = 0) :
    (∃ b, rec_body.f r.1 r.2.1 r.2.2.1 r.2.2.2.1 r.2.2.2.2.1 r.2.2.2.2.2.1 r.2.2.2.2.2.2.1 r.2.2.2.2.2.2.2.1 r.2.2.2.2.2.2.2.2.1 r.2.2.2.2.2.2.2.2.2.1 r.2.2.2.2.2.2.2.2.2.2.1 r.2.2.2.2.2.2.2.2.2.2.2.1 r.2.2.2.2.2.2.2.2.2.2.2.2.1 = some (b, 0)) ∧ ((r.1 = 3 ∨ r.1 = 4 ∨ r.1 = 5 ∨ r.1 = 6 ∨ r.1 = 7 ∨ r.1 = 8) ∨ r.2.1 = 0) := by
  unfold readF at h
  obtain ⟨q, hq, h⟩ := Option.bind_eq_some_iff.mp h
  by_cases hc : q.2.2.2.2.2.2.2.2.2.2.2.2.2.2 = 0
  · rw [if_pos hc] at h
    simp only [Option.some.injEq] at h
    subst h
    dsimp only
    clear he
    have j1 : ∀ (k : Nat) (T : ByteArray) (x7 : Int) (b : Bool), rec_Open.j1 k T x7 b = some q → (∃ b, rec_body.f q.1 q.2.1 q.2.2.1 q.2.2.2.1 q.2.2.2.2.1 q.2.2.2.2.2.1 q.2.2.2.2.2.2.1 q.2.2.2.2.2.2.2.1 q.2.2.2.2.2.2.2.2.1 q.2.2.2.2.2.2.2.2.2.1 q.2.2.2.2.2.2.2.2.2.2.1 q.2.2.2.2.2.2.2.2.2.2.2.1 q.2.2.2.2.2.2.2.2.2.2.2.2.1 = some (b, 0)) ∧ ((q.1 = 3 ∨ q.1 = 4 ∨ q.1 = 5 ∨ q.1 = 6 ∨ q.1 = 7 ∨ q.1 = 8) ∨ q.2.1 = 0) := by
      intro k T x7 b hj
      cases k with
      | zero => exact absurd hj (by simp [rec_Open.j1])
      | succ k =>
        rw [rec_Open.j1] at hj
        split at hj
        · simp only [Option.some.injEq] at hj; subst hj; exact absurd hc (by decide)
        split at hj
        · simp only [Option.some.injEq] at hj; subst hj; exact absurd hc (by decide)
        split at hj
        · split at hj
          · obtain ⟨z, hz, hj⟩ := Option.bind_eq_some_iff.mp hj
            split at hj
            · obtain ⟨y, hy, hj⟩ := Option.bind_eq_some_iff.mp hj
              split at hj
              · rename_i hy0
                simp only [Option.some.injEq] at hj
                subst hj
                exact of_body hy hy0
              · rename_i hy0
                simp only [Option.some.injEq] at hj; subst hj; exact absurd hc hy0
            · rename_i hy0
              simp only [Option.some.injEq] at hj; subst hj; exact absurd hc hy0
          · exact absurd hj (by simp)
        · exact absurd hj (by simp)
    have j0 : ∀ (k : Nat) (T : ByteArray) (x1 : Int) (b : Bool), rec_Open.j0 k T x1 b = some q → (∃ b, rec_body.f q.1 q.2.1 q.2.2.1 q.2.2.2.1 q.2.2.2.2.1 q.2.2.2.2.2.1 q.2.2.2.2.2.2.1 q.2.2.2.2.2.2.2.1 q.2.2.2.2.2.2.2.2.1 q.2.2.2.2.2.2.2.2.2.1 q.2.2.2.2.2.2.2.2.2.2.1 q.2.2.2.2.2.2.2.2.2.2.2.1 q.2.2.2.2.2.2.2.2.2.2.2.2.1 = some (b, 0)) ∧ ((q.1 = 3 ∨ q.1 = 4 ∨ q.1 = 5 ∨ q.1 = 6 ∨ q.1 = 7 ∨ q.1 = 8) ∨ q.2.1 = 0) := by
      intro k T x1 b hj
      cases k with
      | zero => exact absurd hj (by simp [rec_Open.j0])
      | succ k =>
        rw [rec_Open.j0] at hj
        split at hj
        · simp only [Option.some.injEq] at hj; subst hj; exact absurd hc (by decide)
        split at hj
        · split at hj
          · split at hj
            · simp only [Option.some.injEq] at hj; subst hj; exact absurd hc (by decide)
            · obtain ⟨z, hz, hj⟩ := Option.bind_eq_some_iff.mp hj
              obtain ⟨y, hy, hj⟩ := Option.bind_eq_some_iff.mp hj
              split at hj
              · exact j1 _ _ _ _ hj
              · exact j1 _ _ _ _ hj
          · exact absurd hj (by simp)
        · exact absurd hj (by simp)
    unfold rec_Open.f at hq
    split at hq
    · exact j0 _ _ _ _ hq
    · exact j0 _ _ _ _ hq
  · rw [if_neg hc] at h
    simp only [Option.some.injEq] at h
    subst h
    exact absurd he hc
theorem read_txn {all : ByteArray} {lsn : Int} {r : Int × Int × Int × Int × Int × ByteArray × ByteArray × ByteArray × Int × List S144 × List S36 × Int × Int × Int × Int} (h : readF 5 all lsn = some r) (he : r.2.2.2.2.2.2.2.2.2.2.2.2.2.2 = 0) (hk : r.1 = 3 ∨ r.1 = 4 ∨ r.1 = 5 ∨ r.1 = 6 ∨ r.1 = 7 ∨ r.1 = 8) : 0 ≤ r.2.1 ∧ r.2.1 < 281474976710656 := by
  obtain ⟨⟨b, hb⟩, _⟩ := read_body h he
  exact body_txn hk hb
theorem read_x1 {all : ByteArray} {lsn : Int} {r : Int × Int × Int × Int × Int × ByteArray × ByteArray × ByteArray × Int × List S144 × List S36 × Int × Int × Int × Int} (h : readF 5 all lsn = some r) (he : r.2.2.2.2.2.2.2.2.2.2.2.2.2.2 = 0) : 0 ≤ r.2.1 ∧ r.2.1 < 281474976710656 := by
  rcases (read_body h he).2 with hk | hk
  · exact read_txn h he hk
  · omega
theorem read_tab {all : ByteArray} {lsn : Int} {r : Int × Int × Int × Int × Int × ByteArray × ByteArray × ByteArray × Int × List S144 × List S36 × Int × Int × Int × Int} (h : readF 5 all lsn = some r) (he : r.2.2.2.2.2.2.2.2.2.2.2.2.2.2 = 0) (hk : r.1 = 9) : r.2.2.2.2.2.2.2.2.2.2.1.length < 256 ∧ ∀ x ∈ r.2.2.2.2.2.2.2.2.2.2.1, actOk x := by
  obtain ⟨⟨b, hb⟩, _⟩ := read_body h he
  rw [hk] at hb
  exact body_tab hb
end Go.Proofs.YteoebfiacnploaaGreat.HRec
