/- Texts of this proof, put together: PureChk, TopE, OpenChk. They prove no statement. -/
import Derived.Test.YteoebfiacnploaaGreatQG23
import Derived.Test.YteoebfiacnploaaGreatQG15
import Derived.Test.YteoebfiacnploaaGreatQG17
import Derived.Test.YteoebfiacnploaaGreatQG2
namespace Go.Proofs.YteoebfiacnploaaGreat.HRec
open Go.RowKit Go.Proofs.YteoebfiacnploaaGreatW.PrintWords Go.Proofs.YteoebfiacnploaaGreatW.PrintLast Go.Proofs.YteoebfiacnploaaGreatW.PrintMore
set_option linter.unusedVariables false
set_option linter.unusedSimpArgs false
/-- What some records, the first of them behind so many bytes, make of a table. -/
def framesT : Nat → List (RecT × ByteArray) → List S36 → List S36
  | _, [], l => l
  | p, f :: r, l => framesT (p + f.2.size) r (stepT l f.1.1 f.1.2.1 ((p : Int) + 1))
theorem framesT_app : ∀ (a b : List (RecT × ByteArray)) (p : Nat) (l : List S36), framesT p (a ++ b) l = framesT (p + (catB a).size) b (framesT p a l)
  | [], b, p, l => rfl
  | f :: a, b, p, l => by
    show framesT (p + f.2.size) (a ++ b) _ = framesT (p + (f.2 ++ catB a).size) b (framesT (p + f.2.size) a _)
    rw [framesT_app a b, ByteArray.size_append, Nat.add_assoc]
theorem frame_at (pre s rest : ByteArray) (y : RecT) (hf : FrameOk (y, s)) (hs : (pre ++ (s ++ rest)).size ≤ 11600) :
    readF 5 (pre ++ (s ++ rest)) ((pre.size : Int) + 1) = some (y.1, y.2.1, y.2.2.1, y.2.2.2.1, y.2.2.2.2.1, y.2.2.2.2.2.1, y.2.2.2.2.2.2.1, y.2.2.2.2.2.2.2.1, y.2.2.2.2.2.2.2.2.1, y.2.2.2.2.2.2.2.2.2.1, y.2.2.2.2.2.2.2.2.2.2.1, y.2.2.2.2.2.2.2.2.2.2.2.1, y.2.2.2.2.2.2.2.2.2.2.2.2, ((pre.size + s.size : Nat) : Int) + 1, 0) ∧ 7 ≤ s.size := by
  obtain ⟨⟨x0, x1, x2, x3, x4, k, o, n, x8, l9, l10, x11, x12, hy⟩, h9, hfr⟩ := hf
  have hA : At (pre ++ (s ++ rest)) pre.size s := (At_app (At_end pre (s ++ rest))).1
  obtain ⟨ho, h7⟩ := frame_read x0 x1 x2 x3 x4 k o n x8 l9 l10 x11 x12 y hy h9 s hfr (pre ++ (s ++ rest)) pre.size (by omega) hA
  have hA1 := hA.1
  refine ⟨?_, h7⟩
  unfold readF
  rw [show (pre.size : Int) + 1 - 1 = (pre.size : Int) by omega, ho, Option.bind_some]
  dsimp only
  rw [if_pos rfl, w64 (by omega) (by omega)]
  have : (pre.size : Int) + 1 + (s.size : Int) = ((pre.size + s.size : Nat) : Int) + 1 := by omega
  rw [this]
theorem each_frames : ∀ (fs : List (RecT × ByteArray)) (pre rest : ByteArray) (l : List S36) (k : Nat) (R : List S36 × Int), (∀ f ∈ fs, FrameOk f) → (pre ++ (catB fs ++ rest)).size ≤ 11600 → eachT k (pre ++ (catB fs ++ rest)) (framesT pre.size fs l) (((pre.size + (catB fs).size : Nat) : Int) + 1) = some R → eachT (k + fs.length) (pre ++ (catB fs ++ rest)) l ((pre.size : Int) + 1) = some R
  | [], pre, rest, l, k, R, _, _, h => h
  | (y, s) :: r, pre, rest, l, k, R, hf, hs, h => by
    have e1 : pre ++ (catB ((y, s) :: r) ++ rest) = pre ++ (s ++ (catB r ++ rest)) := by
      show pre ++ ((s ++ catB r) ++ rest) = _
      rw [ByteArray.append_assoc]
    have e2 : pre ++ (s ++ (catB r ++ rest)) = (pre ++ s) ++ (catB r ++ rest) := by rw [ByteArray.append_assoc]
    obtain ⟨hr, h7⟩ := frame_at pre s (catB r ++ rest) y (hf (y, s) List.mem_cons_self) (by rw [← e1]; exact hs)
    have e3 : (pre ++ s).size = pre.size + s.size := ByteArray.size_append
    have e4 : ((s ++ catB r).size) = s.size + (catB r).size := ByteArray.size_append
    have ih := each_frames r (pre ++ s) (rest) (stepT l y.1 y.2.1 ((pre.size : Int) + 1)) k R (fun f hm => hf f (List.mem_cons_of_mem _ hm)) (by rw [← e2, ← e1]; exact hs) (by
      rw [← e2, ← e1, e3]
      have h' : eachT k (pre ++ (catB ((y, s) :: r) ++ rest)) (framesT (pre.size + s.size) r (stepT l y.1 y.2.1 ((pre.size : Int) + 1))) (((pre.size + (s ++ catB r).size : Nat) : Int) + 1) = some R := h
      rw [e4, ← Nat.add_assoc] at h'
      exact h')
    rw [← e2, e3] at ih
    rw [e1]
    rw [e1] at hs
    have hz : (pre ++ (s ++ (catB r ++ rest))).size = pre.size + (s.size + (catB r ++ rest).size) := by rw [ByteArray.size_append, ByteArray.size_append]
    show eachT ((k + r.length) + 1) _ _ _ = _
    rw [eachT, if_pos (by omega), hr, Option.bind_some]
    dsimp only
    rw [if_pos rfl]
    exact ih
theorem each_end (all : ByteArray) (l : List S36) : eachT 1 all l ((all.size : Int) + 1) = some (l, 0) := by
  rw [eachT, if_neg (by omega)]
theorem tableF_frames (fs : List (RecT × ByteArray)) (hf : ∀ f ∈ fs, FrameOk f) (hs : (catB fs).size ≤ 11600) (chk : Int) (hc : chk < 1) : tableF (catB fs) chk = some (framesT 0 fs [], 0) := by
  have e1 : (⟨#[]⟩ : ByteArray) ++ (catB fs ++ ⟨#[]⟩) = catB fs := by rw [nil_app, app_nil]
  have h := each_frames fs ⟨#[]⟩ ⟨#[]⟩ [] 1 (framesT 0 fs [], 0) hf (by rw [e1]; exact hs) (by
    rw [e1, empty_size, Nat.zero_add]
    exact each_end _ _)
  rw [e1] at h
  have h : eachT (1 + fs.length) (catB fs) [] 1 = some (framesT 0 fs [], 0) := h
  unfold tableF
  rw [if_pos hc, eachT_at hs (by decide) h]
  rfl
theorem putS_end (t a : Int) : ∀ l : List S36, (∀ x ∈ l, x.f0 < t) → putS l t a = l ++ [⟨t, a⟩]
  | [], _ => rfl
  | x :: r, h => by
    show (if x.f0 ≥ t then ⟨t, a⟩ :: dropS (x :: r) t else x :: putS r t a) = _
    have := h x List.mem_cons_self
    rw [if_neg (by omega), putS_end t a r (fun y hy => h y (List.mem_cons_of_mem _ hy))]
    rfl
theorem putTo_take (T : List S36) (hr : Rising T) : ∀ n, n ≤ T.length → putTo T n = T.take n
  | 0, _ => rfl
  | n + 1, hn => by
    have hx : rd_T36 T (n : Int) = T[n] := by
      unfold rd_T36
      rw [Int.toNat_natCast, List.getD_eq_getElem?_getD, List.getElem?_eq_getElem (by omega)]
      rfl
    show putS (putTo T n) (rd_T36 T (n : Int)).f0 (rd_T36 T (n : Int)).f1 = _
    rw [putTo_take T hr n (by omega), hx, putS_end]
    · have : (⟨T[n].f0, T[n].f1⟩ : S36) = T[n] := rfl
      rw [this, List.take_succ_eq_append_getElem (by omega)]
    · intro x hm
      obtain ⟨i, hi, rfl⟩ := List.mem_take_iff_getElem.mp hm
      exact (List.pairwise_iff_getElem.mp hr) i n (by omega) (by omega) (by omega)
theorem putTo_self (T : List S36) (hr : Rising T) : putTo T T.length = T := by
  rw [putTo_take T hr _ (Nat.le_refl _), List.take_length]
/-- A check in a log that tells the table behind the records ahead of it. -/
theorem checks_pure (fa fb : List (RecT × ByteArray)) (ha : ∀ f ∈ fa, FrameOk f) (hb : ∀ f ∈ fb, FrameOk f) (T : List S36) (hT : T = framesT 0 fa []) (hg : Rising T) (s : ByteArray) (hc : FrameOk ((9, 0, 0, 0, 0, ⟨#[]⟩, ⟨#[]⟩, ⟨#[]⟩, 0, [], T, 0, 0), s)) (hs : (catB fa ++ s ++ catB fb).size ≤ 11600) :
    ∃ Z, tableF (catB fa ++ s ++ catB fb) (((catB fa).size : Int) + 1) = some (Z, 0) ∧ tableF (catB fa ++ s ++ catB fb) 0 = some (Z, 0) := by
  have e1 : catB fa ++ s ++ catB fb = catB (fa ++ (((9, 0, 0, 0, 0, ⟨#[]⟩, ⟨#[]⟩, ⟨#[]⟩, 0, [], T, 0, 0), s) :: fb)) := by
    rw [catB_app, ByteArray.append_assoc]
    rfl
  have e2 : catB fa ++ s ++ catB fb = catB fa ++ (s ++ catB fb) := by rw [ByteArray.append_assoc]
  have e3 : catB fa ++ s ++ catB fb = (catB fa ++ s) ++ (catB fb ++ ⟨#[]⟩) := by rw [app_nil]
  have hz : (catB fa ++ s).size = (catB fa).size + s.size := ByteArray.size_append
  have hz2 : (catB fa ++ s ++ catB fb).size = (catB fa).size + s.size + (catB fb).size := by rw [ByteArray.size_append, ByteArray.size_append]
  refine ⟨framesT ((catB fa).size + s.size) fb T, ?_, ?_⟩
  · obtain ⟨hr, h7⟩ := frame_at (catB fa) s (catB fb) _ hc (by rw [← e2]; exact hs)
    rw [← e2] at hr
    unfold tableF
    rw [if_neg (by omega), if_neg (by omega), hr, Option.bind_some]
    dsimp only
    rw [if_pos ⟨rfl, rfl⟩, putTo_self T hg]
    have h := each_frames fb (catB fa ++ s) ⟨#[]⟩ T 1 (framesT ((catB fa).size + s.size) fb T, 0) hb (by rw [← e3]; exact hs) (by
      rw [← e3, hz, ← hz2]
      exact each_end _ _)
    rw [← e3, hz] at h
    rw [eachT_at hs (by omega) h]
    rfl
  · have h := tableF_frames (fa ++ (((9, 0, 0, 0, 0, ⟨#[]⟩, ⟨#[]⟩, ⟨#[]⟩, 0, [], T, 0, 0), s) :: fb)) (fun f hm => by
      rcases List.mem_append.mp hm with hm | hm
      · exact ha f hm
      · rcases List.mem_cons.mp hm with hm | hm
        · rw [hm]; exact hc
        · exact hb f hm) (by rw [← e1]; exact hs) 0 (by decide)
    rw [← e1] at h
    rw [h, framesT_app, ← hT, Nat.zero_add]
    rfl
theorem framesT_len : ∀ (fs : List (RecT × ByteArray)) (p : Nat) (l : List S36), (framesT p fs l).length ≤ l.length + fs.length
  | [], p, l => Nat.le_refl _
  | f :: r, p, l => by
    have h1 := framesT_len r (p + f.2.size) (stepT l f.1.1 f.1.2.1 ((p : Int) + 1))
    have h2 := step_len l f.1.1 f.1.2.1 ((p : Int) + 1)
    show (framesT (p + f.2.size) r _).length ≤ l.length + (r.length + 1)
    omega
/-- A table that a check can tell. -/
def FullT (l : List S36) : Prop := Rising l ∧ ∀ x ∈ l, actOk x
theorem FullT.step {l : List S36} (h : FullT l) (x0 x1 a : Int) (hb : (x0 = 3 ∨ x0 = 4 ∨ x0 = 5 ∨ x0 = 6 ∨ x0 = 7 ∨ x0 = 8) → 0 ≤ x1 ∧ x1 < 281474976710656) (h0 : 0 ≤ a) (h1 : a < 281474976710656) : FullT (stepT l x0 x1 a) := by
  unfold stepT
  by_cases c1 : x0 = 7 ∨ x0 = 8
  · rw [if_pos c1]; exact ⟨rising_drop h.1 x1, fun x hx => h.2 x (List.mem_filter.mp hx).1⟩
  · rw [if_neg c1]
    by_cases c2 : x0 = 3 ∨ x0 = 4 ∨ x0 = 5 ∨ x0 = 6
    · rw [if_pos c2]
      obtain ⟨b1, b2⟩ := hb (by omega)
      exact ⟨rising_put x1 a l h.1, fun x hx => by
        rcases putS_mem x1 a l x hx with rfl | hm
        · exact ⟨b1, b2, h0, h1⟩
        · exact h.2 x hm⟩
    · rw [if_neg c2]; exact h
theorem framesT_full : ∀ (fs : List (RecT × ByteArray)) (pre rest : ByteArray) (l : List S36), (∀ f ∈ fs, FrameOk f) → (pre ++ (catB fs ++ rest)).size ≤ 11600 → FullT l → FullT (framesT pre.size fs l)
  | [], pre, rest, l, _, _, h => h
  | (y, s) :: r, pre, rest, l, hf, hs, h => by
    have e1 : pre ++ (catB ((y, s) :: r) ++ rest) = pre ++ (s ++ (catB r ++ rest)) := by
      show pre ++ ((s ++ catB r) ++ rest) = _
      rw [ByteArray.append_assoc]
    have e2 : pre ++ (s ++ (catB r ++ rest)) = (pre ++ s) ++ (catB r ++ rest) := by rw [ByteArray.append_assoc]
    obtain ⟨hr, h7⟩ := frame_at pre s (catB r ++ rest) y (hf (y, s) List.mem_cons_self) (by rw [← e1]; exact hs)
    have e3 : (pre ++ s).size = pre.size + s.size := ByteArray.size_append
    have hz : (pre ++ (catB ((y, s) :: r) ++ rest)).size = pre.size + (s.size + (catB r ++ rest).size) := by rw [e1, ByteArray.size_append, ByteArray.size_append]
    have ih := framesT_full r (pre ++ s) rest (stepT l y.1 y.2.1 ((pre.size : Int) + 1)) (fun f hm => hf f (List.mem_cons_of_mem _ hm)) (by rw [← e2, ← e1]; exact hs) (h.step _ _ _ (fun hk => read_txn hr rfl hk) (by omega) (by omega))
    rw [e3] at ih
    exact ih
theorem wnum_ok (s : ByteArray) (n v : Nat) (h1 : 1 ≤ v) (h6 : v ≤ 6) (hn : n < 256 ^ v) (hs : s.size ≤ 1000000000) : pack_Writer_Num.f s 0 (n : Int) (v : Int) = some (s ++ bytesB v n, 0) := by
  unfold pack_Writer_Num.f layF
  rw [if_pos rfl, put_val 20 s n v (by omega) h1 h6 hn hs, Option.bind_some]
  dsimp only
  rw [if_pos rfl]
theorem tabF_ok : ∀ (l : List S36) (s : ByteArray), (∀ x ∈ l, actOk x) → s.size + l.length * 12 ≤ 100000000 → ∃ t, tabF l s 0 = some (t, 0) ∧ t.size = s.size + l.length * 12
  | [], s, _, _ => ⟨s, rfl, by simp⟩
  | x :: r, s, h, hs => by
    obtain ⟨a1, a2, a3, a4⟩ := h x List.mem_cons_self
    rw [List.length_cons] at hs
    obtain ⟨m, hm⟩ : ∃ m : Nat, x.f0 = m := ⟨x.f0.toNat, by omega⟩
    obtain ⟨q, hq⟩ : ∃ q : Nat, x.f1 = q := ⟨x.f1.toNat, by omega⟩
    have w1 := wnum_ok s m 6 (by omega) (by omega) (by rw [hm] at a2; omega) (by omega)
    have w2 := wnum_ok (s ++ bytesB 6 m) q 6 (by omega) (by omega) (by rw [hq] at a4; omega) (by rw [ByteArray.size_append, bytesB_size]; omega)
    obtain ⟨t, ht, hz⟩ := tabF_ok r (s ++ bytesB 6 m ++ bytesB 6 q) (fun y hy => h y (List.mem_cons_of_mem _ hy)) (by rw [ByteArray.size_append, ByteArray.size_append, bytesB_size, bytesB_size]; omega)
    refine ⟨t, ?_, by rw [hz, ByteArray.size_append, ByteArray.size_append, bytesB_size, bytesB_size, List.length_cons]; omega⟩
    unfold tabF
    rw [hm, hq, show (6 : Int) = ((6 : Nat) : Int) from rfl, w1, Option.bind_some]
    dsimp only
    rw [w2, Option.bind_some]
    exact ht
/-- A check's frame, as long as its table is short. -/
theorem check_frame (T : List S36) (hl : T.length ≤ 255) (ha : ∀ x ∈ T, actOk x) : ∃ s, frameF (9, 0, 0, 0, 0, ⟨#[]⟩, ⟨#[]⟩, ⟨#[]⟩, 0, [], T, 0, 0) = some (s, 0) := by
  have w1 := wnum_ok ⟨#[]⟩ 9 1 (by omega) (by omega) (by omega) (by rw [empty_size]; omega)
  have w2 := wnum_ok (⟨#[]⟩ ++ bytesB 1 9) T.length 1 (by omega) (by omega) (by omega) (by rw [nil_app, bytesB_size]; omega)
  obtain ⟨t, ht, hz⟩ := tabF_ok T (⟨#[]⟩ ++ bytesB 1 9 ++ bytesB 1 T.length) ha (by rw [nil_app, ByteArray.size_append, bytesB_size, bytesB_size]; omega)
  rw [nil_app, ByteArray.size_append, bytesB_size, bytesB_size] at hz
  have hb : rec_body.f 9 0 0 0 0 ⟨#[]⟩ ⟨#[]⟩ ⟨#[]⟩ 0 [] T 0 0 = some (t, 0) := by
    unfold rec_body.f
    have w1' : pack_Writer_Num.f ⟨#[]⟩ 0 9 1 = some (⟨#[]⟩ ++ bytesB 1 9, 0) := w1
    have w2' : pack_Writer_Num.f (⟨#[]⟩ ++ bytesB 1 9) 0 (T.length : Int) 1 = some (⟨#[]⟩ ++ bytesB 1 9 ++ bytesB 1 T.length, 0) := w2
    rw [w1', Option.bind_some]
    dsimp only
    rw [if_neg (by decide), if_neg (by decide), if_neg (by decide), if_neg (by decide), if_neg (by decide), if_pos rfl, w2', Option.bind_some]
    dsimp only
    rw [ht, Option.bind_some]
    unfold bodyTail
    dsimp only
    rw [if_pos rfl, if_pos rfl, if_neg (by omega)]
  obtain ⟨s, e, hf, _⟩ := frame_tot (9, 0, 0, 0, 0, ⟨#[]⟩, ⟨#[]⟩, ⟨#[]⟩, 0, [], T, 0, 0) (Nat.zero_le _)
  have he : e = 0 := by
    have h := hf
    unfold frameF at h
    dsimp only at h
    rw [hb, Option.bind_some] at h
    dsimp only at h
    rw [if_pos rfl] at h
    obtain ⟨p, hp, h⟩ := Option.bind_eq_some_iff.mp h
    obtain ⟨q, hq, h⟩ := Option.bind_eq_some_iff.mp h
    split at h
    · simp only [Option.some.injEq, Prod.mk.injEq] at h
      exact h.2.symm
    · exact absurd h (by simp)
  subst he
  exact ⟨s, hf⟩
theorem check_ok (T : List S36) (s : ByteArray) (h : frameF (9, 0, 0, 0, 0, ⟨#[]⟩, ⟨#[]⟩, ⟨#[]⟩, 0, [], T, 0, 0) = some (s, 0)) : FrameOk ((9, 0, 0, 0, 0, ⟨#[]⟩, ⟨#[]⟩, ⟨#[]⟩, 0, [], T, 0, 0), s) :=
  ⟨⟨9, 0, 0, 0, 0, ⟨#[]⟩, ⟨#[]⟩, ⟨#[]⟩, 0, [], T, 0, 0, rfl⟩, Nat.zero_le _, h⟩
end Go.Proofs.YteoebfiacnploaaGreat.HRec
namespace Go.Proofs.YteoebfiacnploaaGreat.HRec
open Go.RowKit Go.Proofs.YteoebfiacnploaaGreatW.PrintWords Go.Proofs.YteoebfiacnploaaGreatW.PrintLast Go.Proofs.YteoebfiacnploaaGreatW.PrintMore
set_option linter.unusedVariables false
set_option linter.unusedSimpArgs false
/-- What Append makes of whole frames is whole frames. -/
theorem appF_frames (pre : ByteArray) (fb : List (RecT × ByteArray)) (hf : ∀ f ∈ fb, FrameOk f) (x0 x1 x2 x3 x4 : Int) (k o n : ByteArray) (x8 : Int) (l9 : List S144) (l10 : List S36) (x11 x12 : Int) (h9 : l9.length ≤ 9223372036854775807) (s : ByteArray) (e : Int) (h : frameF (cleanR x0 x1 x2 x3 x4 k o n x8 l9 l10 x11 x12) = some (s, e)) :
    ∃ fb' : List (RecT × ByteArray), (∀ f ∈ fb', FrameOk f) ∧ (appF (pre ++ catB fb) s e).1 = pre ++ catB fb' := by
  unfold appF
  by_cases he : e = 0
  · subst he
    rw [if_pos rfl]
    unfold addF
    split
    · exact ⟨fb, hf, rfl⟩
    · refine ⟨fb ++ [(cleanR x0 x1 x2 x3 x4 k o n x8 l9 l10 x11 x12, s)], fun f hm => ?_, ?_⟩
      · rcases List.mem_append.mp hm with hm | hm
        · exact hf f hm
        · rw [List.mem_singleton.mp hm]
          exact ⟨⟨x0, x1, x2, x3, x4, k, o, n, x8, l9, l10, x11, x12, rfl⟩, Nat.le_trans (cleanR_len x0 x1 x2 x3 x4 k o n x8 l9 l10 x11 x12) h9, h⟩
      · rw [catB_app]
        show pre ++ catB fb ++ s = pre ++ (catB fb ++ (s ++ ⟨#[]⟩))
        rw [app_nil, ByteArray.append_assoc]
  · rw [if_neg he]
    exact ⟨fb, hf, rfl⟩
theorem tableF_len {all : ByteArray} {Z : List S36} (h : tableF all 0 = some (Z, 0)) : Z.length ≤ 100000 := by
  have hk : ∀ (k : Nat) (l : List S36) (lsn : Int) (r : List S36 × Int), eachT k all l lsn = some r → r.1.length ≤ l.length + k := by
    intro k
    induction k with
    | zero => intro l lsn r h; exact absurd h (by simp [eachT])
    | succ k ih =>
      intro l lsn r h
      rw [eachT] at h
      split at h
      · obtain ⟨q, hq, h⟩ := Option.bind_eq_some_iff.mp h
        split at h
        · have := ih _ _ _ h
          have := step_len l q.1 q.2.1 lsn
          omega
        · simp only [Option.some.injEq] at h
          subst h
          show l.length ≤ _
          omega
      · simp only [Option.some.injEq] at h
        subst h
        show l.length ≤ _
        omega
  unfold tableF at h
  rw [if_pos (by decide)] at h
  obtain ⟨r, h1, h2⟩ := Option.map_eq_some_iff.mp h
  have h3 := hk _ _ _ _ h1
  unfold endT at h2
  split at h2
  · simp only [Prod.mk.injEq] at h2
    rw [← h2.1]
    simp only [List.length_nil] at h3
    omega
  · simp only [Prod.mk.injEq] at h2
    rw [← h2.1]
    exact Nat.zero_le _
set_option maxHeartbeats 32000000 in
set_option maxRecDepth 100000 in
theorem law_Checks (A1 : Option Addr) (c1 : Nat) (la : List RecT) (A2 : Option Addr) (c2 : Nat) (lb : List RecT) (w : World) (hra : Kd.C kRec w A1 la.length la) (hrb : Kd.C kRec w A2 lb.length lb) :
    Calls Tryz.prog 4 #[.slice A1 la.length c1, .slice A2 lb.length c2] w fun e w' => e = .returned (.bool true) ∧ Below w.heap.size w w' := by
  have HLOG := Aside0.mk (law_LogN A1 c1 la 40 w hra); have RB := Aside0.mk hrb; have HNB := Aside0.mk hrb.2.1; have hu32 := Tryz.underlying32; clear hra hrb
  go_enter Tryz.func4, Tryz.ntmps4
  go_wp2_with fail
  refine HLOG.out.mono ?_
  rintro e w0 ⟨L, d, all, rfl, hL, hs, ⟨fa, hfn, hfa, rfl⟩, hL0, hb⟩
  have HTX := Aside0.mk (redo_Table L d 0 200 1 (catB fa) 0 0 (framesT 0 fa []) 0 w0 hL hs (tableF_frames fa hfa hs 0 (by decide)))
  have hfull : FullT (framesT 0 fa []) := by
    have e1 : (⟨#[]⟩ : ByteArray) ++ (catB fa ++ ⟨#[]⟩) = catB fa := by rw [nil_app, app_nil]
    exact framesT_full fa ⟨#[]⟩ ⟨#[]⟩ [] hfa (by rw [e1]; exact hs) ⟨List.Pairwise.nil, fun x hx => absurd hx List.not_mem_nil⟩
  have hxl : (framesT 0 fa []).length ≤ 255 := by
    have := framesT_len fa 0 []
    have hfn : fa.length ≤ 40 := hfn
    simp only [List.length_nil] at this
    omega
  obtain ⟨s, hsf⟩ := check_frame (framesT 0 fa []) hxl hfull.2
  have HX := Aside0.mk hfull; have HS := Aside0.mk hsf; have HXL := Aside0.mk hxl; have HFA := Aside0.mk hfa; have HA := Aside0.mk hs; have HL0 := Aside0.mk hL; have HLG := Aside0.mk hL0; have HB0 := Aside0.mk hb; clear HLOG hfull hxl hsf hfa hs hL hL0 hb hfn
  obtain ⟨X, hX⟩ : ∃ X, X = framesT 0 fa [] := ⟨_, rfl⟩
  rw [← hX] at HTX HX HS HXL
  have HXE := Aside0.mk hX; clear hX
  go_wp2_with fail
  refine HTX.out.mono ?_
  rintro e w1 ⟨A3, c3, rfl, hc3, hC3, hb⟩
  have HL1 := Aside0.mk (IsLog.below HL0.out hb); have HB1 := Aside0.mk (below_step HB0.out hb)
  have HAP := Aside0.mk (log_Append L d 0 1 (catB fa) 0 9 0 0 0 0 ⟨#[]⟩ ⟨#[]⟩ ⟨#[]⟩ 0 none 0 [] A3 c3 X 0 0 s 0 w w1 HL1.out HA.out HB1.out HLG.out (Kd.C_nil _ _) (Nat.le_refl _) hC3 hc3 HS.out)
  clear hc3 hC3 hb HTX HL0 HB0 HL1 HB1
  go_wp2_with fail
  refine HAP.out.mono ?_
  rintro e w2 ⟨rfl, hl, hb⟩
  have HBr := Aside0.mk hb
  by_cases hz : (s.size : Int) > 11600 - ((catB fa).size : Int)
  · have hap : appF (catB fa) s 0 = (catB fa, 0, 7) := by unfold appF addF; rw [if_pos rfl, if_pos hz]
    rw [hap]
    clear hl hb hap hz HAP
    go_wp2_with fail
    refine (gharrylaw15_awake.calls 10 true w2 awake_true).mono ?_
    rintro e w9 ⟨rfl, hb⟩
    have B9 := Aside0.mk (below_step HBr.out hb); clear hb HBr
    go_wp2_with fail
    go_ret
    exact ⟨rfl, B9.out⟩
  · have hap : appF (catB fa) s 0 = (catB fa ++ s, ((catB fa).size : Int) + 1, 0) := by unfold appF addF; rw [if_pos rfl, if_neg hz]
    rw [hap] at hl
    rw [hap]
    have HSZ0 : Aside0 ((catB fa ++ s ++ catB []).size ≤ 11600) := ⟨by
      have : catB ([] : List (RecT × ByteArray)) = ⟨#[]⟩ := rfl
      rw [this, app_nil, ByteArray.size_append]
      omega⟩
    have HL2 : Aside0 (IsLog w2 L d 0 200 1 (catB fa ++ s ++ catB []) 0) := ⟨by
      have : catB ([] : List (RecT × ByteArray)) = ⟨#[]⟩ := rfl
      rw [this, app_nil]
      exact hl⟩
    clear hl hb hap hz HAP
    dsimp only
    go_wp2_with fail
    go_loopg [10] (lb.length) (fun kq v10 w' => ∃ (i : Int) (fb : List (RecT × ByteArray)), v10 = .int .i64 i ∧ Aside0 (0 ≤ i ∧ i.toNat + kq = lb.length) ∧ Aside0 (∀ f ∈ fb, FrameOk f) ∧ Aside0 ((catB fa ++ s ++ catB fb).size ≤ 11600) ∧ Aside0 (IsLog w' L d 0 200 1 (catB fa ++ s ++ catB fb) 0) ∧ Aside0 (Below w.heap.size w w'))
    case atStart => exact ⟨0, [], rfl, ⟨by omega, by simp⟩, ⟨fun f hf => absurd hf List.not_mem_nil⟩, HSZ0, HL2, HBr⟩
    case round =>
      clear HL2 HBr HSZ0
      obtain ⟨i, fb, rfl, HD, HFB, HSZ, HLr, HBr⟩ := hrel
      cases gk with
      | zero =>
        have b0 : decide (i < (lb.length : Int)) = false := decide_eq_false (by have := HD.out; omega)
        have hi40 := True.intro; clear HD RB HNB hi40; have HP := Aside0.mk (checks_pure fa fb HFA.out HFB.out X HXE.out HX.out.1 s (check_ok X s HS.out) HSZ.out)
        obtain ⟨Z, hz1, hz2⟩ := HP.out
        have T1 : Aside0 (∀ W, IsLog W L d 0 200 1 (catB fa ++ s ++ catB fb) 0 → Calls Tryz.prog 14 #[.pointer (some ⟨L, 0, none⟩), .int .i64 (((catB fa).size : Int) + 1)] W fun e w' => ∃ A cap, e = .returned (.tuple #[.slice A Z.length cap, .int .i64 0]) ∧ Z.length ≤ cap ∧ Kd.C k36 w' A Z.length Z ∧ Below W.heap.size W w') := ⟨fun W h => redo_Table L d 0 200 1 _ 0 _ Z 0 W h HSZ.out hz1⟩
        have T2 : Aside0 (∀ W, IsLog W L d 0 200 1 (catB fa ++ s ++ catB fb) 0 → Calls Tryz.prog 14 #[.pointer (some ⟨L, 0, none⟩), .int .i64 0] W fun e w' => ∃ A cap, e = .returned (.tuple #[.slice A Z.length cap, .int .i64 0]) ∧ Z.length ≤ cap ∧ Kd.C k36 w' A Z.length Z ∧ Below W.heap.size W w') := ⟨fun W h => redo_Table L d 0 200 1 _ 0 _ Z 0 W h HSZ.out hz2⟩
        have HZL := Aside0.mk (tableF_len hz2); clear HP hz1 hz2
        go_wp2_with fail
        refine (T1.out wr HLr.out).mono ?_
        rintro e w5 ⟨A5, c5, rfl, hc5, hC5, hb⟩
        have C5 := Aside0.mk (And.intro hc5 hC5); have HL5 := Aside0.mk (IsLog.below HLr.out hb); have B5 := Aside0.mk (below_step HBr.out hb); clear hc5 hC5 hb HLr HBr T1
        go_wp2_with fail
        refine (T2.out w5 HL5.out).mono ?_
        rintro e w6 ⟨A6, c6, rfl, hc6, hC6, hb⟩
        have C6 := Aside0.mk (And.intro hc6 hC6); have C56 := Aside0.mk (Kd.C_below C5.out.2 hb); have B6 := Aside0.mk (below_step B5.out hb); clear hc6 hC6 hb B5 T2
        go_wp2_with fail
        refine (gharrylaw15_same.calls 100001 A5 c5 Z A6 c6 Z true w6 C56.out C5.out.1 C6.out.2 C6.out.1 (same_self Z HZL.out)).mono ?_
        rintro e w7 ⟨rfl, hD⟩
        have B7 := Aside0.mk (below_step B6.out (Drawn0.below hD)); clear hD B6 C56 C6
        go_wp2_with fail
        refine (gharrylaw15_awake.calls 10 true w7 awake_true).mono ?_
        rintro e w9 ⟨rfl, hb⟩
        have B9 := Aside0.mk (below_step B7.out hb); clear hb B7
        go_wp2_with fail
        go_ret
        exact ⟨rfl, B9.out⟩
      | succ k1 =>
        have hi : i < (lb.length : Int) := by have := HD.out; omega
        have h0 : 0 ≤ i := HD.out.1
        have b0 : decide (i < (lb.length : Int)) = true := decide_eq_true hi
        by_cases hi40 : i < 40
        · have b1 : decide (i < 40) = true := decide_eq_true hi40
          have hw : wrap64 (i + 1) = i + 1 := w64 (by omega) (by omega)
          have hnx : (i + 1).toNat = i.toNat + 1 := by omega
          clear hi40
          obtain ⟨ad, A9, c9, A10, c10, rfl, z0, z1, z2, z3, z4, z5, z6, z7, z8, z9, z10, z11, z12, q9, y9, q10, y10⟩ := at_Rec (Kd.C_below RB.out HBr.out) i h0 hi
          generalize rd_Rec lb i = y at *
          obtain ⟨y0, y1, y2, y3, y4, y5, y6, y7, y8, l9, l10, y11, y12⟩ := y
          dsimp only at z0 z1 z2 z3 z4 z5 z6 z7 z8 z9 z10 z11 z12 q9 y9 q10 y10
          obtain ⟨sf, ee, hf, _⟩ := frame_tot (cleanR y0 y1 y2 y3 y4 y5 y6 y7 y8 l9 l10 y11 y12) (Nat.le_trans (cleanR_len y0 y1 y2 y3 y4 y5 y6 y7 y8 l9 l10 y11 y12) q9.2.1)
          have HAp := Aside0.mk (log_Append L d 0 1 (catB fa ++ s ++ catB fb) 0 y0 y1 y2 y3 y4 y5 y6 y7 y8 A9 c9 l9 A10 c10 l10 y11 y12 sf ee w wr HLr.out HSZ.out HBr.out HLG.out q9 y9 q10 y10 hf)
          obtain ⟨fb', hfb', he⟩ := appF_frames (catB fa ++ s) fb HFB.out y0 y1 y2 y3 y4 y5 y6 y7 y8 l9 l10 y11 y12 q9.2.1 sf ee hf
          have HSZ' := Aside0.mk (appF_size (catB fa ++ s ++ catB fb) sf ee HSZ.out)
          rw [he] at HSZ'
          have HFB' := Aside0.mk hfb'
          have HE := Aside0.mk he
          clear q9 y9 q10 y10 hf hfb' he
          go_wp2_with fail
          refine HAp.out.mono ?_
          rintro e w3 ⟨rfl, hl, hb⟩
          rw [HE.out] at hl
          have HL3 := Aside0.mk hl; have HB3 := Aside0.mk hb; clear hl hb HAp z0 z1 z2 z3 z4 z5 z6 z7 z8 z9 z10 z11 z12
          go_wp2_with fail
          go_roundg k1
          case measure => omega
          case rel => exact ⟨i + 1, fb', by first | rfl | rw [hw], ⟨by omega, by have := HD.out; omega⟩, HFB', HSZ', HL3, HB3⟩
        · have b1 : decide (i < 40) = false := decide_eq_false hi40
          clear HD RB HNB hi40; have HP := Aside0.mk (checks_pure fa fb HFA.out HFB.out X HXE.out HX.out.1 s (check_ok X s HS.out) HSZ.out)
          obtain ⟨Z, hz1, hz2⟩ := HP.out
          have T1 : Aside0 (∀ W, IsLog W L d 0 200 1 (catB fa ++ s ++ catB fb) 0 → Calls Tryz.prog 14 #[.pointer (some ⟨L, 0, none⟩), .int .i64 (((catB fa).size : Int) + 1)] W fun e w' => ∃ A cap, e = .returned (.tuple #[.slice A Z.length cap, .int .i64 0]) ∧ Z.length ≤ cap ∧ Kd.C k36 w' A Z.length Z ∧ Below W.heap.size W w') := ⟨fun W h => redo_Table L d 0 200 1 _ 0 _ Z 0 W h HSZ.out hz1⟩
          have T2 : Aside0 (∀ W, IsLog W L d 0 200 1 (catB fa ++ s ++ catB fb) 0 → Calls Tryz.prog 14 #[.pointer (some ⟨L, 0, none⟩), .int .i64 0] W fun e w' => ∃ A cap, e = .returned (.tuple #[.slice A Z.length cap, .int .i64 0]) ∧ Z.length ≤ cap ∧ Kd.C k36 w' A Z.length Z ∧ Below W.heap.size W w') := ⟨fun W h => redo_Table L d 0 200 1 _ 0 _ Z 0 W h HSZ.out hz2⟩
          have HZL := Aside0.mk (tableF_len hz2); clear HP hz1 hz2
          go_wp2_with fail
          refine (T1.out wr HLr.out).mono ?_
          rintro e w5 ⟨A5, c5, rfl, hc5, hC5, hb⟩
          have C5 := Aside0.mk (And.intro hc5 hC5); have HL5 := Aside0.mk (IsLog.below HLr.out hb); have B5 := Aside0.mk (below_step HBr.out hb); clear hc5 hC5 hb HLr HBr T1
          go_wp2_with fail
          refine (T2.out w5 HL5.out).mono ?_
          rintro e w6 ⟨A6, c6, rfl, hc6, hC6, hb⟩
          have C6 := Aside0.mk (And.intro hc6 hC6); have C56 := Aside0.mk (Kd.C_below C5.out.2 hb); have B6 := Aside0.mk (below_step B5.out hb); clear hc6 hC6 hb B5 T2
          go_wp2_with fail
          refine (gharrylaw15_same.calls 100001 A5 c5 Z A6 c6 Z true w6 C56.out C5.out.1 C6.out.2 C6.out.1 (same_self Z HZL.out)).mono ?_
          rintro e w7 ⟨rfl, hD⟩
          have B7 := Aside0.mk (below_step B6.out (Drawn0.below hD)); clear hD B6 C56 C6
          go_wp2_with fail
          refine (gharrylaw15_awake.calls 10 true w7 awake_true).mono ?_
          rintro e w9 ⟨rfl, hb⟩
          have B9 := Aside0.mk (below_step B7.out hb); clear hb B7
          go_wp2_with fail
          go_ret
          exact ⟨rfl, B9.out⟩
end Go.Proofs.YteoebfiacnploaaGreat.HRec
namespace Go.Proofs.YteoebfiacnploaaGreat.HRec
open Go.RowKit Go.Deep Go.Proofs.YteoebfiacnploaaGreat.Open Go.Proofs.YteoebfiacnploaaGreatW.PrintWords Go.Proofs.YteoebfiacnploaaGreatW.PrintLast
set_option linter.unusedVariables false
theorem checks_walk {W : World} (A0 : Option Addr) (c0 : Nat) (l : List RecT) (hr0 : Kd.C kRec W A0 l.length l) (hc0 : l.length ≤ c0) (_ : l.length ≤ maxLen ∧ ∀ x ∈ l, True)
    (A1 : Option Addr) (c1 : Nat) (l1 : List RecT) (hr1 : Kd.C kRec W A1 l1.length l1) (hc1 : l1.length ≤ c1) (_ : l1.length ≤ maxLen ∧ ∀ x ∈ l1, True) :
    Calls Tryz.prog 4 #[.slice A0 l.length c0, .slice A1 l1.length c1] W fun x w' => x = .returned (.bool true) ∧ Below W.heap.size W w' := law_Checks A0 c0 l A1 c1 l1 W hr0 hr1
end Go.Proofs.YteoebfiacnploaaGreat.HRec
