/- Texts of this proof, put together: PureBody, PureKinds, PureTabs. They prove no statement. -/
import Derived.Test.YteoebfiacnploaaGreatQG11
namespace Go.Proofs.YteoebfiacnploaaGreat.HRec
open Go.RowKit Go.Proofs.YteoebfiacnploaaGreatW.PrintWords Go.Proofs.YteoebfiacnploaaGreatW.PrintLast Go.Proofs.YteoebfiacnploaaGreatW.PrintMore
set_option linter.unusedVariables false
set_option linter.unusedSimpArgs false
/-- The bytes of B stand in T from a place on. -/
def At (T : ByteArray) (p : Nat) (B : ByteArray) : Prop := p + B.size ≤ T.size ∧ (T.data.toList.drop p).take B.size = B.data.toList
theorem size_list (B : ByteArray) : B.data.toList.length = B.size := by rw [Array.length_toList]; rfl
theorem ba_ext {a b : ByteArray} (h : a.data.toList = b.data.toList) : a = b := by
  cases a; cases b
  congr 1
  exact Array.toList_inj.mp h
theorem At_whole (T : ByteArray) : At T 0 T := by
  refine ⟨by omega, ?_⟩
  rw [List.drop_zero, ← size_list, List.take_length]
theorem At_app {T : ByteArray} {p : Nat} {A B : ByteArray} (h : At T p (A ++ B)) : At T p A ∧ At T (p + A.size) B := by
  obtain ⟨h1, h2⟩ := h
  rw [ByteArray.size_append] at h1 h2
  rw [List.take_add, ByteArray.data_append, Array.toList_append] at h2
  have hl : ((T.data.toList.drop p).take A.size).length = A.data.toList.length := by
    rw [List.length_take, List.length_drop, size_list, size_list]
    omega
  obtain ⟨e1, e2⟩ := List.append_inj h2 hl
  refine ⟨⟨by omega, e1⟩, ⟨by omega, ?_⟩⟩
  rw [List.drop_drop] at e2
  exact e2
theorem At_extract {T : ByteArray} {p : Nat} {B : ByteArray} (h : At T p B) : T.extract p (p + B.size) = B := by
  apply ba_ext
  rw [ByteArray.data_extract, Array.toList_extract, ← h.2]
  show List.take (p + B.size - p) (List.drop p T.data.toList) = _
  rw [show p + B.size - p = B.size by omega]
theorem raw_at {T : ByteArray} {p : Nat} {B : ByteArray} (h : At T p B) (hs : T.size ≤ 1000000) : pack_Reader_Raw.f T (p : Int) 0 (B.size : Int) = some (B, T, ((p + B.size : Nat) : Int), 0) := by
  have h1 := h.1
  unfold pack_Reader_Raw.f pack_Reader_off.f pack_Reader_fail.f
  simp only [Option.bind_some]
  have e1 : wrap64 ((T.size : Int) - p) = T.size - p := w64 (by omega) (by omega)
  have e2 : wrap64 ((p : Int) + B.size) = ((p + B.size : Nat) : Int) := by rw [w64 (by omega) (by omega)]; omega
  have e3 : wrap64 (((p + B.size : Nat) : Int) - B.size) = p := by rw [w64 (by omega) (by omega)]; omega
  rw [if_neg (by decide), if_neg (by omega), e1, if_neg (by omega), e2, e3, if_pos (by omega), if_pos (by omega), if_pos (by omega), Int.toNat_natCast, Int.toNat_natCast, At_extract h]
theorem num_at {T : ByteArray} {p w n : Nat} (h : At T p (bytesB w n)) (hs : T.size ≤ 1000000) (h1 : 1 ≤ w) (h6 : w ≤ 6) (hn : n < 256 ^ w) : pack_Reader_Num.f T (p : Int) 0 (w : Int) = some ((n : Int), T, ((p + w : Nat) : Int), 0) := by
  have hw : widthF T (p : Int) 0 (w : Int) = (T, (p : Int), 0) := if_neg (by omega)
  have hr := raw_at h hs
  rw [bytesB_size] at hr
  unfold pack_Reader_Num.f
  rw [hw]
  dsimp only
  rw [hr, Option.bind_some]
  dsimp only
  rw [bytesB_size, if_pos (by omega)]
  have : numB (bytesB w n).data.toList = (n : Int) := by
    show numB (bytesN w n).toArray.toList = _
    rw [List.toList_toArray]
    exact numB_bytes w n hn h6
  rw [this]
theorem text_at {T : ByteArray} {p : Nat} {t : ByteArray} (k : Nat) (most : Int) (h : At T p (bytesB 2 t.size ++ t)) (hs : T.size ≤ 1000000) (ht : t.size < 65536) (hm : (t.size : Int) ≤ most) : pack_Reader_Text.f (k + 1) T (p : Int) 0 most = some (t, T, ((p + 2 + t.size : Nat) : Int), 0) := by
  obtain ⟨a, b⟩ := At_app h
  rw [bytesB_size] at b
  have hn := num_at a hs (by omega) (by omega) (by omega)
  unfold pack_Reader_Text.f pack_Reader_off.f
  rw [show ((2 : Int)) = ((2 : Nat) : Int) from rfl, hn, Option.bind_some]
  dsimp only
  rw [Option.bind_some]
  dsimp only
  rw [if_neg (by decide), decide_eq_false (by omega)]
  unfold pack_Reader_Text.j0
  dsimp only
  rw [if_neg (by decide), raw_at b hs, Option.bind_some]
theorem pos_end {T : ByteArray} {p : Nat} (h : p = T.size) (hs : T.size ≤ 1000000) : pack_Reader_End.f T (p : Int) 0 = some (0, T, (p : Int), 0) := by
  subst h
  unfold pack_Reader_End.f pack_Reader_Left.f pack_Reader_off.f pack_Reader_fail.f pack_Reader_Err.f
  simp only [Option.bind_some]
  rw [if_neg (by decide), Int.sub_self, w64 (by omega) (by omega)]
  simp
/-! A writer without an error at the end had none ahead. -/
theorem wnum_val {s : ByteArray} {e n w : Int} {t : ByteArray} (hs : s.size ≤ 1000000000) (h : pack_Writer_Num.f s e n w = some (t, 0)) : e = 0 ∧ ∃ m v : Nat, n = m ∧ w = v ∧ 1 ≤ v ∧ v ≤ 6 ∧ m < 256 ^ v ∧ t = s ++ bytesB v m := by
  unfold pack_Writer_Num.f layF at h
  by_cases he : e = 0
  · rw [if_pos he] at h
    refine ⟨he, ?_⟩
    obtain ⟨⟨p, q⟩, hp, h⟩ := Option.bind_eq_some_iff.mp h
    dsimp only at h
    by_cases hq : q = 0
    · subst hq
      rw [if_pos rfl] at h
      simp only [Option.some.injEq, Prod.mk.injEq, and_true] at h
      subst h
      obtain ⟨r1, r2, r3, r4⟩ := put_room 20 s n w (by omega) p hp
      obtain ⟨m, rfl⟩ : ∃ m : Nat, n = m := ⟨n.toNat, by omega⟩
      obtain ⟨v, rfl⟩ : ∃ v : Nat, w = v := ⟨w.toNat, by omega⟩
      rw [Int.toNat_natCast] at r4
      have hm : m < 256 ^ v := Int.ofNat_lt.mp (by rw [Int.natCast_pow]; exact r4)
      have hv := put_val 20 s m v (by omega) (by omega) (by omega) hm hs
      rw [hp] at hv
      simp only [Option.some.injEq, Prod.mk.injEq, and_true] at hv
      exact ⟨m, v, rfl, rfl, by omega, by omega, hm, hv⟩
    · rw [if_neg hq] at h
      simp only [Option.some.injEq, Prod.mk.injEq] at h
      exact absurd h.2 hq
  · rw [if_neg he] at h
    simp only [Option.some.injEq, Prod.mk.injEq] at h
    exact absurd h.2 he
theorem wtext_val {s : ByteArray} {e : Int} {x t : ByteArray} (hs : s.size ≤ 100000000) (h : pack_Writer_Text.f s e x = some (t, 0)) : e = 0 ∧ x.size < 65536 ∧ t = s ++ (bytesB 2 x.size ++ x) := by
  unfold pack_Writer_Text.f layF at h
  by_cases he : e = 0
  · rw [if_pos he] at h
    refine ⟨he, ?_⟩
    obtain ⟨⟨p, q⟩, hp, h⟩ := Option.bind_eq_some_iff.mp h
    dsimp only at h
    by_cases hq : q = 0
    · subst hq
      rw [if_pos rfl] at h
      simp only [Option.some.injEq, Prod.mk.injEq, and_true] at h
      subst h
      have e1 : pack_limit.f 2 = some 65536 := by kernel_rfl
      unfold pack_Text.f at hp
      rw [e1, Option.bind_some] at hp
      by_cases hc : (x.size : Int) ≥ 65536
      · rw [if_pos hc] at hp
        simp at hp
      · have hv := put_val 20 s x.size 2 (by omega) (by omega) (by omega) (by omega) (by omega)
        rw [if_neg hc, show ((2 : Int)) = ((2 : Nat) : Int) from rfl, hv, Option.bind_some] at hp
        dsimp only at hp
        rw [ByteArray.size_append, bytesB_size, if_pos (by omega)] at hp
        simp only [Option.some.injEq, Prod.mk.injEq, and_true] at hp
        exact ⟨by omega, by rw [← hp, ByteArray.append_assoc]⟩
    · rw [if_neg hq] at h
      simp only [Option.some.injEq, Prod.mk.injEq] at h
      exact absurd h.2 hq
  · rw [if_neg he] at h
    simp only [Option.some.injEq, Prod.mk.injEq] at h
    exact absurd h.2 he
end Go.Proofs.YteoebfiacnploaaGreat.HRec
namespace Go.Proofs.YteoebfiacnploaaGreat.HRec
open Go.RowKit Go.Proofs.YteoebfiacnploaaGreatW.PrintWords Go.Proofs.YteoebfiacnploaaGreatW.PrintLast Go.Proofs.YteoebfiacnploaaGreatW.PrintMore
set_option linter.unusedVariables false
set_option linter.unusedSimpArgs false
theorem nil_app (a : ByteArray) : (⟨#[]⟩ : ByteArray) ++ a = a := by
  apply ba_ext
  rw [ByteArray.data_append, Array.toList_append]
  rfl
theorem app_nil (a : ByteArray) : a ++ (⟨#[]⟩ : ByteArray) = a := by
  apply ba_ext
  rw [ByteArray.data_append, Array.toList_append]
  exact List.append_nil _
theorem num_at' {T : ByteArray} {p w n q : Nat} (h : At T p (bytesB w n)) (hs : T.size ≤ 1000000) (h1 : 1 ≤ w) (h6 : w ≤ 6) (hn : n < 256 ^ w) (hq : q = p + w) : pack_Reader_Num.f T (p : Int) 0 (w : Int) = some ((n : Int), T, (q : Int), 0) := by
  subst hq
  exact num_at h hs h1 h6 hn
theorem text_at' {T : ByteArray} {p q : Nat} {t : ByteArray} (k : Nat) (most : Int) (h : At T p (bytesB 2 t.size ++ t)) (hs : T.size ≤ 1000000) (ht : t.size < 65536) (hm : (t.size : Int) ≤ most) (hq : q = p + 2 + t.size) : pack_Reader_Text.f (k + 1) T (p : Int) 0 most = some (t, T, (q : Int), 0) := by
  subst hq
  exact text_at k most h hs ht hm
def imgB (x : S144) : ByteArray := bytesB 2 x.f0.toNat ++ (bytesB 2 x.f1.size ++ x.f1)
def imgsB : List S144 → ByteArray
  | [] => ⟨#[]⟩
  | x :: r => imgB x ++ imgsB r
def imgOk (x : S144) : Prop := 0 ≤ x.f0 ∧ x.f0 < 65536 ∧ x.f1.size = 224
theorem imgB_size (x : S144) (h : imgOk x) : (imgB x).size = 228 := by
  unfold imgB
  rw [ByteArray.size_append, ByteArray.size_append, bytesB_size, bytesB_size, h.2.2]
theorem images_l_val (l : List S144) (hl : l.length < 256) : ∀ (k i : Nat) (s : ByteArray) (e : Int) (t : ByteArray), rec_images.l0 k l (l.length : Int) (i : Int) s e = some (0, t, 0) → i ≤ l.length → s.size ≤ 1000 + i * 300 → e = 0 ∧ t = s ++ imgsB (l.drop i) ∧ ∀ x ∈ l.drop i, imgOk x
  | 0, i, s, e, t, h, _, _ => by simp [rec_images.l0] at h
  | k + 1, i, s, e, t, h, hi, hs => by
    unfold rec_images.l0 at h
    by_cases hc : i < l.length
    · have hd : l.drop i = l[i] :: l.drop (i + 1) := List.drop_eq_getElem_cons hc
      have hr : rd_T144 l (i : Int) = l[i] := by
        unfold rd_T144
        rw [Int.toNat_natCast, List.getD_eq_getElem?_getD, List.getElem?_eq_getElem hc]
        rfl
      rw [if_pos (by omega), if_pos (by omega), if_pos (by omega), hr] at h
      by_cases hz : (l[i].f1.size : Int) = 224
      · rw [if_pos hz] at h
        obtain ⟨⟨s1, e1⟩, q1, h⟩ := Option.bind_eq_some_iff.mp h
        dsimp only at h
        obtain ⟨⟨s2, e2⟩, q2, h⟩ := Option.bind_eq_some_iff.mp h
        dsimp only at h
        rw [w64 (by omega) (by omega)] at h
        obtain ⟨a1, b1, c1, d1, f1⟩ := wnum_tot s e l[i].f0 2 (by omega)
        rw [q1] at c1
        simp only [Option.some.injEq, Prod.mk.injEq] at c1
        obtain ⟨rfl, rfl⟩ := c1
        obtain ⟨a2, b2, c2, d2, g2, _⟩ := wtext_tot s1 e1 l[i].f1 (by omega)
        rw [q2] at c2
        simp only [Option.some.injEq, Prod.mk.injEq] at c2
        obtain ⟨rfl, rfl⟩ := c2
        obtain ⟨r1, r2, r3⟩ := images_l_val l hl k (i + 1) s2 e2 t h (by omega) (by omega)
        subst r1
        obtain ⟨u1, u2, u3⟩ := wtext_val (by omega) q2
        subst u1
        obtain ⟨v1, m, v, v2, v3, _, _, v4, v5⟩ := wnum_val (by omega) q1
        obtain rfl : v = 2 := by omega
        refine ⟨v1, ?_, ?_⟩
        · rw [r2, u3, v5, hd]
          show _ = s ++ (imgB l[i] ++ imgsB (l.drop (i + 1)))
          unfold imgB
          rw [v2, Int.toNat_natCast, ByteArray.append_assoc, ByteArray.append_assoc, ByteArray.append_assoc, ByteArray.append_assoc, ByteArray.append_assoc]
        · intro x hx
          rw [hd] at hx
          rcases List.mem_cons.mp hx with rfl | hx
          · exact ⟨by omega, by omega, by omega⟩
          · exact r3 x hx
      · rw [if_neg hz] at h
        simp at h
    · obtain rfl : i = l.length := by omega
      rw [if_neg (by omega)] at h
      simp only [Option.some.injEq, Prod.mk.injEq, true_and] at h
      obtain ⟨rfl, rfl⟩ := h
      rw [List.drop_length]
      exact ⟨rfl, (app_nil _).symm, fun x hx => absurd hx (List.not_mem_nil)⟩
theorem readImages_at {T : ByteArray} (hs : T.size ≤ 1000000) : ∀ (r acc : List S144) (p k : Nat), At T p (imgsB r) → (∀ x ∈ r, imgOk x) → acc.length + r.length ≤ 255 → r.length + 2 ≤ k → rec_readImages.l0 k acc ((acc.length + r.length : Nat) : Int) (acc.length : Int) T (p : Int) 0 = some (acc ++ r, T, ((p + (imgsB r).size : Nat) : Int), 0)
  | [], acc, p, 0, _, _, _, hk => absurd hk (by omega)
  | [], acc, p, k + 1, h, _, _, _ => by
    unfold rec_readImages.l0
    rw [if_neg (by simp), List.append_nil]
    rfl
  | x :: r, acc, p, 0, _, _, _, hk => absurd hk (by omega)
  | x :: r, acc, p, 1, _, _, _, hk => absurd hk (by simp)
  | x :: r, acc, p, k + 2, h, hx, hl, hk => by
    rw [List.length_cons] at hl hk
    have hok := hx x List.mem_cons_self
    obtain ⟨h1, h2⟩ := At_app (show At T p (imgB x ++ imgsB r) from h)
    obtain ⟨h3, h4⟩ := At_app (show At T p (bytesB 2 x.f0.toNat ++ (bytesB 2 x.f1.size ++ x.f1)) from h1)
    rw [bytesB_size] at h4
    rw [imgB_size x hok] at h2
    have hn := num_at' (q := p + 2) h3 hs (by omega) (by omega) (by have := hok.1; have := hok.2.1; omega) rfl
    have ht := text_at' (q := p + 228) k 224 h4 hs (by have := hok.2.2; omega) (by have := hok.2.2; omega) (by have := hok.2.2; omega)
    have e0 : ((x.f0.toNat : Nat) : Int) = x.f0 := by have := hok.1; omega
    unfold rec_readImages.l0 pack_Reader_Err.f
    rw [List.length_cons, if_pos (by omega), show (2 : Int) = ((2 : Nat) : Int) from rfl, hn, Option.bind_some]
    dsimp only
    rw [ht, Option.bind_some]
    dsimp only
    rw [Option.bind_some]
    dsimp only
    rw [if_pos rfl, if_pos (by omega), w64 (by omega) (by omega), e0]
    have ih := readImages_at hs r (acc ++ [x]) (p + 228) (k + 1) h2 (fun y hy => hx y (List.mem_cons_of_mem _ hy)) (by rw [List.length_append, List.length_singleton]; omega) (by omega)
    rw [List.length_append, List.length_singleton] at ih
    have e1 : ((acc.length : Int) + 1) = ((acc.length + 1 : Nat) : Int) := by omega
    have e2 : ((acc.length + (r.length + 1) : Nat) : Int) = ((acc.length + 1 + r.length : Nat) : Int) := by omega
    have e3 : (p + (imgsB (x :: r)).size) = p + 228 + (imgsB r).size := by
      show p + (imgB x ++ imgsB r).size = _
      rw [ByteArray.size_append, imgB_size x hok]; omega
    rw [e1, e2, e3]
    have ih2 := ih
    rw [List.append_assoc] at ih2
    exact ih2
end Go.Proofs.YteoebfiacnploaaGreat.HRec
namespace Go.Proofs.YteoebfiacnploaaGreat.HRec
open Go.RowKit Go.Proofs.YteoebfiacnploaaGreatW.PrintWords Go.Proofs.YteoebfiacnploaaGreatW.PrintLast Go.Proofs.YteoebfiacnploaaGreatW.PrintMore
set_option linter.unusedVariables false
set_option linter.unusedSimpArgs false
def actB (x : S36) : ByteArray := bytesB 6 x.f0.toNat ++ bytesB 6 x.f1.toNat
def actsB : List S36 → ByteArray
  | [] => ⟨#[]⟩
  | x :: r => actB x ++ actsB r
def actOk (x : S36) : Prop := 0 ≤ x.f0 ∧ x.f0 < 281474976710656 ∧ 0 ≤ x.f1 ∧ x.f1 < 281474976710656
theorem actB_size (x : S36) : (actB x).size = 12 := by
  unfold actB
  rw [ByteArray.size_append, bytesB_size, bytesB_size]
theorem tabF_val : ∀ (l : List S36) (s : ByteArray) (e : Int) (t : ByteArray), tabF l s e = some (t, 0) → s.size + l.length * 12 ≤ 100000000 → e = 0 ∧ t = s ++ actsB l ∧ ∀ x ∈ l, actOk x
  | [], s, e, t, h, _ => by
    unfold tabF at h
    simp only [Option.some.injEq, Prod.mk.injEq] at h
    obtain ⟨rfl, rfl⟩ := h
    exact ⟨rfl, (app_nil _).symm, fun x hx => absurd hx (List.not_mem_nil)⟩
  | a :: l, s, e, t, h, hs => by
    rw [List.length_cons] at hs
    unfold tabF at h
    obtain ⟨⟨s1, e1⟩, q1, h⟩ := Option.bind_eq_some_iff.mp h
    dsimp only at h
    obtain ⟨⟨s2, e2⟩, q2, h⟩ := Option.bind_eq_some_iff.mp h
    dsimp only at h
    obtain ⟨a1, b1, c1, d1, _⟩ := wnum_tot s e a.f0 6 (by omega)
    rw [q1] at c1
    simp only [Option.some.injEq, Prod.mk.injEq] at c1
    obtain ⟨rfl, rfl⟩ := c1
    obtain ⟨a2, b2, c2, d2, _⟩ := wnum_tot s1 e1 a.f1 6 (by omega)
    rw [q2] at c2
    simp only [Option.some.injEq, Prod.mk.injEq] at c2
    obtain ⟨rfl, rfl⟩ := c2
    obtain ⟨r1, r2, r3⟩ := tabF_val l s2 e2 t h (by omega)
    subst r1
    obtain ⟨u1, m2, w2, u2, u3, _, _, u4, u5⟩ := wnum_val (by omega) q2
    subst u1
    obtain ⟨v1, m1, w1, v2, v3, _, _, v4, v5⟩ := wnum_val (by omega) q1
    obtain rfl : w1 = 6 := by omega
    obtain rfl : w2 = 6 := by omega
    refine ⟨v1, ?_, fun x hx => ?_⟩
    · rw [r2, u5, v5]
      show _ = s ++ (actB a ++ actsB l)
      unfold actB
      rw [u2, v2, Int.toNat_natCast, Int.toNat_natCast, ByteArray.append_assoc, ByteArray.append_assoc, ByteArray.append_assoc]
    · rcases List.mem_cons.mp hx with rfl | hx
      · exact ⟨by omega, by omega, by omega, by omega⟩
      · exact r3 x hx
theorem readTable_at {T : ByteArray} (hs : T.size ≤ 1000000) : ∀ (r acc : List S36) (p k : Nat), At T p (actsB r) → (∀ x ∈ r, actOk x) → acc.length + r.length ≤ 255 → r.length + 1 ≤ k → rec_readTable.l0 k acc ((acc.length + r.length : Nat) : Int) (acc.length : Int) T (p : Int) 0 = some (acc ++ r, T, ((p + (actsB r).size : Nat) : Int), 0)
  | [], acc, p, 0, _, _, _, hk => absurd hk (by omega)
  | [], acc, p, k + 1, h, _, _, _ => by
    unfold rec_readTable.l0
    rw [if_neg (by simp), List.append_nil]
    rfl
  | x :: r, acc, p, 0, _, _, _, hk => absurd hk (by omega)
  | x :: r, acc, p, k + 1, h, hx, hl, hk => by
    rw [List.length_cons] at hl hk
    have hok := hx x List.mem_cons_self
    obtain ⟨h1, h2⟩ := At_app (show At T p (actB x ++ actsB r) from h)
    obtain ⟨h3, h4⟩ := At_app (show At T p (bytesB 6 x.f0.toNat ++ bytesB 6 x.f1.toNat) from h1)
    rw [bytesB_size] at h4
    rw [actB_size] at h2
    have hn := num_at' (q := p + 6) h3 hs (by omega) (by omega) (by have := hok.1; have := hok.2.1; omega) rfl
    have hm := num_at' (q := p + 12) h4 hs (by omega) (by omega) (by have := hok.2.2.1; have := hok.2.2.2; omega) rfl
    have e0 : ((x.f0.toNat : Nat) : Int) = x.f0 := by have := hok.1; omega
    have e4 : ((x.f1.toNat : Nat) : Int) = x.f1 := by have := hok.2.2.1; omega
    unfold rec_readTable.l0
    rw [List.length_cons, if_pos (by omega), show (6 : Int) = ((6 : Nat) : Int) from rfl, hn, Option.bind_some]
    dsimp only
    rw [hm, Option.bind_some]
    dsimp only
    rw [if_pos (by omega), w64 (by omega) (by omega), e0, e4]
    have ih := readTable_at hs r (acc ++ [x]) (p + 12) k h2 (fun y hy => hx y (List.mem_cons_of_mem _ hy)) (by rw [List.length_append, List.length_singleton]; omega) (by omega)
    rw [List.length_append, List.length_singleton] at ih
    have e1 : ((acc.length : Int) + 1) = ((acc.length + 1 : Nat) : Int) := by omega
    have e2 : ((acc.length + (r.length + 1) : Nat) : Int) = ((acc.length + 1 + r.length : Nat) : Int) := by omega
    have e3 : (p + (actsB (x :: r)).size) = p + 12 + (actsB r).size := by
      show p + (actB x ++ actsB r).size = _
      rw [ByteArray.size_append, actB_size]; omega
    rw [e1, e2, e3]
    rw [List.append_assoc] at ih
    exact ih
theorem cut_val {k o n : ByteArray} (h : rec_cut.f 10 k [o, n] = some 0) : k.size ≤ 16 ∧ o.size ≤ 32 ∧ n.size ≤ 32 := by
  have e1 : wrap64 (0 + 1) = 1 := by kernel_rfl
  have e2 : wrap64 (1 + 1) = 2 := by kernel_rfl
  unfold rec_cut.f at h
  by_cases h1 : (k.size : Int) > 16
  · rw [if_pos h1] at h
    simp at h
  · rw [if_neg h1] at h
    unfold rec_cut.l0 at h
    rw [if_pos (by simp), if_pos (by decide), if_pos (by simp)] at h
    by_cases h2 : ((rdOf ByteArray.empty [o, n] 0).size : Int) > 32
    · rw [if_pos h2] at h
      simp at h
    · rw [if_neg h2, e1] at h
      unfold rec_cut.l0 at h
      rw [if_pos (by simp), if_pos (by decide), if_pos (by simp)] at h
      by_cases h3 : ((rdOf ByteArray.empty [o, n] 1).size : Int) > 32
      · rw [if_pos h3] at h
        simp at h
      · have a2 : ¬ ((o.size : Int) > 32) := h2
        have a3 : ¬ ((n.size : Int) > 32) := h3
        exact ⟨by omega, by omega, by omega⟩
theorem bodyTail_val {e : Int} {u : ByteArray} {f : Int} {s : ByteArray} (h : bodyTail e u f = (s, 0)) : e = 0 ∧ f = 0 ∧ u = s ∧ s.size ≤ 4096 := by
  unfold bodyTail at h
  by_cases he : e = 0
  · subst he
    rw [if_pos rfl] at h
    by_cases hf : f = 0
    · subst hf
      rw [if_pos rfl] at h
      by_cases hz : u.size > 4096
      · rw [if_pos hz] at h
        simp at h
      · rw [if_neg hz] at h
        simp only [Prod.mk.injEq, and_true] at h
        subst h
        exact ⟨rfl, rfl, rfl, by omega⟩
    · rw [if_neg hf] at h
      simp only [Prod.mk.injEq] at h
      exact absurd h.2 hf
  · rw [if_neg he, if_neg he] at h
    simp only [Prod.mk.injEq] at h
    exact absurd h.2 he
/-- What is laid of a change in a page, behind a text. -/
theorem change_val {s : ByteArray} {e x0 x1 x2 x3 x4 : Int} {k o n : ByteArray} {x8 : Int} {l9 : List S144} {l10 : List S36} {x11 x12 act : Int} {t : ByteArray} (hs : s.size ≤ 1000000) (h : rec_change.f s e x0 x1 x2 x3 x4 k o n x8 l9 l10 x11 x12 act = some (t, 0)) :
    e = 0 ∧ 0 ≤ x3 ∧ x3 < 65536 ∧ k.size < 65536 ∧ (act ≠ 3 → o.size < 65536) ∧ (act ≠ 4 → n.size < 65536) ∧
    t = ((s ++ bytesB 2 x3.toNat) ++ (bytesB 2 k.size ++ k)) ++ ((if act = 3 then ⟨#[]⟩ else bytesB 2 o.size ++ o) ++ (if act = 4 then ⟨#[]⟩ else bytesB 2 n.size ++ n)) := by
  unfold rec_change.f at h
  obtain ⟨⟨s1, e1⟩, q1, h⟩ := Option.bind_eq_some_iff.mp h
  dsimp only at h
  obtain ⟨⟨s2, e2⟩, q2, h⟩ := Option.bind_eq_some_iff.mp h
  dsimp only at h
  obtain ⟨a1, b1, c1, d1, _⟩ := wnum_tot s e x3 2 (by omega)
  rw [q1] at c1
  simp only [Option.some.injEq, Prod.mk.injEq] at c1
  obtain ⟨rfl, rfl⟩ := c1
  obtain ⟨a2, b2, c2, d2, _⟩ := wtext_tot s1 e1 k (by omega)
  rw [q2] at c2
  simp only [Option.some.injEq, Prod.mk.injEq] at c2
  obtain ⟨rfl, rfl⟩ := c2
  have fin : e2 = 0 → e = 0 ∧ 0 ≤ x3 ∧ x3 < 65536 ∧ k.size < 65536 ∧ s2 = (s ++ bytesB 2 x3.toNat) ++ (bytesB 2 k.size ++ k) := by
    intro h0
    subst h0
    obtain ⟨u1, u2, u3⟩ := wtext_val (by omega) q2
    subst u1
    obtain ⟨v1, m, w, v2, v3, _, _, v4, v5⟩ := wnum_val (by omega) q1
    obtain rfl : w = 2 := by omega
    refine ⟨v1, by omega, by omega, u2, ?_⟩
    rw [u3, v5, v2, Int.toNat_natCast]
  by_cases c3 : act = 3
  · rw [if_pos c3, if_neg (by omega)] at h
    obtain ⟨⟨s3, e3⟩, q3, h⟩ := Option.bind_eq_some_iff.mp h
    simp only [Option.some.injEq, Prod.mk.injEq] at h
    obtain ⟨rfl, rfl⟩ := h
    obtain ⟨u1, u2, u3⟩ := wtext_val (by omega) q3
    obtain ⟨f1, f2, f3, f4, f5⟩ := fin u1
    refine ⟨f1, f2, f3, f4, fun h => absurd c3 h, fun _ => u2, ?_⟩
    rw [if_pos c3, if_neg (by omega), nil_app, u3, f5]
  · rw [if_neg c3] at h
    obtain ⟨⟨s3, e3⟩, q3, h⟩ := Option.bind_eq_some_iff.mp h
    dsimp only at h
    obtain ⟨a3, b3, g3, d3, _⟩ := wtext_tot s2 e2 o (by omega)
    rw [q3] at g3
    simp only [Option.some.injEq, Prod.mk.injEq] at g3
    obtain ⟨rfl, rfl⟩ := g3
    by_cases c4 : act = 4
    · rw [if_pos c4] at h
      simp only [Option.some.injEq, Prod.mk.injEq] at h
      obtain ⟨rfl, rfl⟩ := h
      obtain ⟨u1, u2, u3⟩ := wtext_val (by omega) q3
      obtain ⟨f1, f2, f3, f4, f5⟩ := fin u1
      refine ⟨f1, f2, f3, f4, fun _ => u2, fun h => absurd c4 h, ?_⟩
      rw [if_neg c3, if_pos c4, app_nil, u3, f5]
    · rw [if_neg c4] at h
      obtain ⟨⟨s4, e4⟩, q4, h⟩ := Option.bind_eq_some_iff.mp h
      simp only [Option.some.injEq, Prod.mk.injEq] at h
      obtain ⟨rfl, rfl⟩ := h
      obtain ⟨w1, w2, w3⟩ := wtext_val (by omega) q4
      subst w1
      obtain ⟨u1, u2, u3⟩ := wtext_val (by omega) q3
      obtain ⟨f1, f2, f3, f4, f5⟩ := fin u1
      refine ⟨f1, f2, f3, f4, fun _ => u2, fun _ => w2, ?_⟩
      rw [if_neg c3, if_neg c4, w3, u3, f5, ByteArray.append_assoc (a := (s ++ bytesB 2 x3.toNat) ++ (bytesB 2 k.size ++ k))]
end Go.Proofs.YteoebfiacnploaaGreat.HRec
