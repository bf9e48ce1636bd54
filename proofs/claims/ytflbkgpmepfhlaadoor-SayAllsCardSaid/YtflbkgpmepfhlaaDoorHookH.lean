/- The contract of strings.Split at one byte, in plain words; and what splitting is. It proves no statement. -/
import Derived.Test.YtflbkgpmepfhlaaDoorHookG
namespace Go.Proofs.YtflbkgpmepfhlaaDoor.Hook
open Go.RowKit Go.Proofs.YtflbkgpmepfhlaaDoorW.PrintWords Go.Proofs.YtflbkgpmepfhlaaDoorW.PrintLast Go.Proofs.YtflbkgpmepfhlaaDoorW.PrintMore Go.Proofs.YtflbkgpmepfhlaaDoor.SayPure
set_option linter.unusedVariables false

/-- A text cut at each byte c. -/
def splitL (c : UInt8) : List UInt8 → List (List UInt8)
  | [] => [[]]
  | b :: l => if b = c then [] :: splitL c l else match splitL c l with
    | [] => [[b]]
    | p :: r => (b :: p) :: r
def mkB (l : List UInt8) : ByteArray := ⟨l.toArray⟩

theorem split_none (c : UInt8) (l : List UInt8) (h : c ∉ l) : splitL c l = [l] := by
  induction l with
  | nil => rfl
  | cons b l ih =>
    have hb : ¬ b = c := fun e => h (by simp [e])
    rw [splitL, if_neg hb, ih (fun e => h (by simp [e]))]
theorem split_first (c : UInt8) (l : List UInt8) (h : c ∈ l) : ∃ p r, l = p ++ c :: r ∧ Lib.indexByte l c = (p.length : Int) ∧ splitL c l = p :: splitL c r ∧ l.count c = r.count c + 1 := by
  induction l with
  | nil => simp at h
  | cons b l ih =>
    by_cases hb : b = c
    · subst hb
      refine ⟨[], l, rfl, ?_, ?_, ?_⟩
      · simp [Lib.indexByte]
      · rw [splitL, if_pos rfl]
      · simp
    · have hm : c ∈ l := by
        rcases List.mem_cons.1 h with e | e
        · exact absurd e.symm hb
        · exact e
      obtain ⟨p, r, hl, hi, hs, hc⟩ := ih hm
      refine ⟨b :: p, r, by rw [hl]; rfl, ?_, ?_, ?_⟩
      · have hne : ¬ ((p.length : Int) == -1) = true := by simp
        simp only [Lib.indexByte]
        rw [if_neg (by simpa using hb), hi, if_neg hne]
        simp
      · rw [splitL, if_neg hb, hs]
      · rw [List.count_cons_of_ne hb]
        exact hc

theorem set_take (a : List ByteArray) (i : Nat) (x : ByteArray) (h : i < a.length) : (a.set i x).take (i + 1) = a.take i ++ [x] := by
  rw [List.take_succ_eq_append_getElem (by simpa using h)]
  simp [List.take_set_of_le]

theorem wrap64_of (n : Int) (h0 : -9223372036854775808 ≤ n) (h1 : n ≤ 9223372036854775807) : wrap64 n = n := by unfold wrap64; omega

theorem split_l0 (c : UInt8) : ∀ (d k : Nat) (s : ByteArray) (a : List ByteArray) (i n : Nat), s.data.toList.count c = d → i + d = n → a.length = n + 1 → d < k → s.size ≤ 1000000 → n ≤ 1000000 →
    HBase.strings_genSplit.l0 k s ⟨#[c]⟩ 0 (n : Int) a (i : Int) = some (a.take i ++ (splitL c s.data.toList).map mkB) := by
  intro d
  induction d with
  | zero =>
    intro k s a i n hc hi ha hk hs hn
    obtain ⟨k, rfl⟩ : ∃ m, k = m + 1 := ⟨k - 1, by omega⟩
    have hnone : c ∉ s.data.toList := by rw [← List.count_eq_zero]; exact hc
    rw [HBase.strings_genSplit.l0, if_neg (by omega), if_pos (by omega), if_pos (by omega), wrap64_of _ (by omega) (by omega), if_pos (by omega), if_pos (by omega), split_none c _ hnone]
    rw [show ((i : Int) + 1).toNat = i + 1 from by omega, Int.toNat_natCast, set_take a i s (by omega)]
    simp [mkB]
  | succ d ih =>
    intro k s a i n hc hi ha hk hs hn
    obtain ⟨k, rfl⟩ : ∃ m, k = m + 1 := ⟨k - 1, by omega⟩
    have hmem : c ∈ s.data.toList := by
      rw [← List.count_pos_iff]
      omega
    obtain ⟨p, r, hl, hidx, hsp, hcnt⟩ := split_first c _ hmem
    have hlen : p.length + 1 + r.length = s.size := by
      rw [← data_length, hl]
      simp; omega
    have hix : strings_Index.f s ⟨#[c]⟩ = some (p.length : Int) := by
      unfold strings_Index.f
      simp only
      rw [hidx]
    rw [HBase.strings_genSplit.l0, if_pos (by omega), hix, Option.bind_some]
    have hsz1 : ((⟨#[c]⟩ : ByteArray).size : Int) = 1 := rfl
    rw [if_neg (by omega), wrap64_of _ (by omega) (by omega), hsz1, wrap64_of _ (by omega) (by omega), wrap64_of _ (by omega) (by omega)]
    rw [if_pos (by omega), if_pos (by omega), if_pos (by omega), if_pos (by omega), if_pos (by omega), if_pos (by omega)]
    have hd : (s.extract ((p.length : Int) + 1).toNat s.size).data.toList = r := by
      rw [Lib.extract_data, hl, show ((p.length : Int) + 1).toNat = p.length + 1 from by omega]
      rw [show p.length + 1 = (p ++ [c]).length from by simp, show p ++ c :: r = (p ++ [c]) ++ r from by simp, List.drop_left]
      rw [List.take_of_length_le]
      simp; omega
    have hp : s.extract 0 ((p.length : Int) + 0).toNat = mkB p := by
      rw [Lib.extract_eq, hl, show ((p.length : Int) + 0).toNat = p.length from by omega]
      simp [mkB]
    have hsz2 : (s.extract ((p.length : Int) + 1).toNat s.size).size ≤ s.size := by rw [ByteArray.size_extract]; omega
    rw [show (i : Int) + 1 = ((i + 1 : Nat) : Int) from by omega, ih k _ _ (i + 1) n (by rw [hd]; omega) (by omega) (by simpa using ha) (by omega) (by omega) hn, hd, hsp, hp]
    congr 1
    rw [Int.toNat_natCast, set_take a i _ (by omega)]
    simp

def strings_Split.f (a0 a1 : ByteArray) : Option (List ByteArray) := match a1.data.toList with
  | [c] => if a0.size ≤ 1000000 then some ((splitL c a0.data.toList).map mkB) else none
  | _ => none
theorem split_f (s : ByteArray) (c : UInt8) (hs : s.size ≤ 1000000) : HBase.strings_Split.f (s.size + 10) s ⟨#[c]⟩ = some ((splitL c s.data.toList).map mkB) := by
  have hcl : s.data.toList.count c ≤ s.size := by rw [← data_length]; exact List.count_le_length
  unfold HBase.strings_Split.f HBase.strings_genSplit.f
  have hcf : strings_Count.f s ⟨#[c]⟩ = some ((s.data.toList.count c : Nat) : Int) := rfl
  have h0 : ¬ (⟨#[c]⟩ : ByteArray).toList = ([] : List UInt8) := by rw [Lib.toList_data]; simp
  rw [if_neg (by omega), if_neg h0, if_pos (by omega), hcf, Option.bind_some]
  have hm : mn (wrap64 (((s.data.toList.count c : Nat) : Int) + 1)) (wrap64 ((s.size : Int) + 1)) = ((s.data.toList.count c + 1 : Nat) : Int) := by
    rw [wrap64_of _ (by omega) (by omega), wrap64_of _ (by omega) (by omega)]
    unfold mn
    split <;> omega
  rw [HBase.strings_genSplit.j0, hm, if_pos (by omega), if_pos (by omega), wrap64_of _ (by omega) (by omega)]
  rw [show ((s.data.toList.count c + 1 : Nat) : Int) - 1 = ((s.data.toList.count c : Nat) : Int) from by omega]
  have := split_l0 c (s.data.toList.count c) (s.size + 9) s (List.replicate (s.data.toList.count c + 1) (⟨#[]⟩ : ByteArray)) 0 (s.data.toList.count c) rfl (by omega) (by simp) (by omega) (by omega) (by omega)
  rw [Int.toNat_natCast]
  rw [show ((0 : Nat) : Int) = 0 from rfl] at this
  rw [this]
  simp
theorem strings_Split.calls (a0 a1 : ByteArray) (r : List ByteArray) (w : World) (h : strings_Split.f a0 a1 = some r) :
    Calls Tryd.prog 39 #[.string a0, .string a1] w fun e w' => ∃ v0_ : Value, e = .returned (v0_) ∧ Kd.R Kd.string 9 w' w.heap.size (fun _ => True) v0_ r ∧ Below w.heap.size w w' := by
  unfold strings_Split.f at h
  split at h
  · rename_i c hc
    obtain rfl := one_of hc
    split at h
    · rename_i hsz
      obtain rfl := Option.some.inj h
      exact HBase.strings_Split.calls _ a0 _ _ w (split_f a0 c hsz)
    · cases h
  · cases h
end Go.Proofs.YtflbkgpmepfhlaaDoor.Hook
