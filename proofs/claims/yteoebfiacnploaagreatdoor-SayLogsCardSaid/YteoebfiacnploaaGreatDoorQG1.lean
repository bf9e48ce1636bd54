/- Texts of this proof, put together: SayA, SayPure. They prove no statement. -/
import Derived.Test.YteoebfiacnploaaGreatDoorQG0
import Derived.Test.YteoebfiacnploaaGreatDoorQWall
import Derived.WalkKit
import Derived.Deep.MidRow
namespace Go.Proofs.YteoebfiacnploaaGreatDoor.Hook
open Go.RowKit Go.Proofs.YteoebfiacnploaaGreatDoorW.PrintWords Go.Proofs.YteoebfiacnploaaGreatDoorW.PrintLast Go.Proofs.YteoebfiacnploaaGreatDoorW.PrintMore
set_option linter.unusedVariables false

/-- strings.explode is never reached where the separator is one byte. -/
def strings_explode.f (_ : ByteArray) (_ : Int) : Option (List ByteArray) := none
theorem strings_explode.calls (a0 : ByteArray) (a1 : Int) (r : List ByteArray) (w : World) (h : strings_explode.f a0 a1 = some r) :
    Calls Tryz.prog 92 #[.string a0, .int .i64 a1] w fun e w' => ∃ v0_ : Value, e = .returned (v0_) ∧ Kd.R Kd.string 9 w' w.heap.size (fun _ => True) v0_ r ∧ Below w.heap.size w w' := by cases h

theorem one_of {a : ByteArray} {c : UInt8} (h : a.data.toList = [c]) : a = ⟨#[c]⟩ := by
  cases a with
  | mk d => congr 1; exact Array.toList_inj.1 (by simpa using h)

def strings_Count.f (a0 a1 : ByteArray) : Option Int := match a1.data.toList with
  | [c] => some (Lib.countByte a0.data.toList c)
  | _ => none
theorem strings_Count.calls (a0 a1 : ByteArray) (r : Int) (w : World) (h : strings_Count.f a0 a1 = some r) :
    Calls Tryz.prog 93 #[.string a0, .string a1] w fun e w' => e = .returned (.int .i64 r) ∧ Drawn0 w w' := by
  unfold strings_Count.f at h
  split at h
  · rename_i c hc
    obtain rfl := one_of hc
    obtain rfl := Option.some.inj h
    refine (Tryz.strings_Count_one a0 c w).mono ?_
    rintro e w' ⟨rfl, rfl⟩
    exact ⟨rfl, Drawn0.refl _⟩
  · cases h

def strings_Index.f (a0 a1 : ByteArray) : Option Int := match a1.data.toList with
  | [c] => some (Lib.indexByte a0.data.toList c)
  | _ => none
theorem strings_Index.calls (a0 a1 : ByteArray) (r : Int) (w : World) (h : strings_Index.f a0 a1 = some r) :
    Calls Tryz.prog 94 #[.string a0, .string a1] w fun e w' => e = .returned (.int .i64 r) ∧ Drawn0 w w' := by
  unfold strings_Index.f at h
  split at h
  · rename_i c hc
    obtain rfl := one_of hc
    obtain rfl := Option.some.inj h
    refine (Tryz.strings_Index_one a0 c w).mono ?_
    rintro e w' ⟨rfl, rfl⟩
    exact ⟨rfl, Drawn0.refl _⟩
  · cases h

def strings_Join.f (l0 : List ByteArray) (a1 : ByteArray) : Option ByteArray :=
  if (Lib.join (l0.map (·.data.toList)) a1.data.toList).length ≤ 140737488355328 ∧ l0.length ≤ 140737488355328 then some ⟨(Lib.join (l0.map (·.data.toList)) a1.data.toList).toArray⟩ else none
theorem strings_Join.calls (A0 : Option Addr) (c0 : Nat) (l0 : List ByteArray) (a1 : ByteArray) (r : ByteArray) (w : World) (hr0 : Kd.C Kd.string w A0 l0.length l0) (hc0 : l0.length ≤ c0) (h : strings_Join.f l0 a1 = some r) :
    Calls Tryz.prog 39 #[.slice A0 l0.length c0, .string a1] w fun e w' => e = .returned (.string r) ∧ Below w.heap.size w w' := by
  unfold strings_Join.f at h
  split at h
  · rename_i hl
    obtain rfl := Option.some.inj h
    by_cases hn : l0 = []
    · subst hn
      refine (Tryz.strings_Join_none A0 c0 a1 w).mono ?_
      rintro e w' ⟨rfl, rfl⟩
      exact ⟨rfl, Below.refl _ _⟩
    · have hp : 0 < l0.length := by cases l0 <;> simp_all
      obtain ⟨ad, rfl, hc⟩ := hr0.2.2 hp
      have hcell : ∀ j p, l0[j]? = some p → w.cell? (ad.add j) = some (.string p) := by
        intro j p hj
        obtain ⟨c, _, hc1, hc2⟩ := hc j p hj
        have hc1' : c = [.string p] := hc1
        subst hc1'
        have := hc2 0 (.string p) rfl
        simpa [Kd.string, Kd.scalar] using this
      obtain ⟨x, hx⟩ : ∃ x, l0[0]? = some x := ⟨l0[0], by simp [hp]⟩
      have h0 := hcell 0 x hx
      have hspot : ad.spot = none := by
        simp only [Addr.add_zero'] at h0
        unfold World.cell? at h0
        split at h0
        · split at h0
          · cases h0
          · rename_i hs
            simpa using hs
        · cases h0
      obtain ⟨bk, o, sp⟩ := ad
      have hspot' : sp = none := hspot
      subst hspot'
      refine (Tryz.strings_Join bk o c0 l0 a1 w (fun j x hj => ?_) ?_ hl.2 hc0 hl.1).mono ?_
      · have := hcell j x hj
        rwa [Addr.add_mid] at this
      · exact World.block_lt_of_cell? w _ h0
      · rintro e w' ⟨rfl, hb⟩
        exact ⟨rfl, hb⟩
  · cases h

/-- Block g is neither the builder's own nor its row's. -/
def Apart (b g : Nat) (w : World) : Prop := g ≠ b ∧ g < w.heap.size ∧ ∀ p v, w.heap[b]? = some (.cells #[p, v] 59 (0, 0)) → v.ownBlock ≠ some g

set_option maxHeartbeats 2000000 in
set_option maxRecDepth 100000 in
theorem copyCheck (B b : Nat) (bs : List Value) (w : World) (h : Lib.IsBuilder 59 5 B b bs w) :
    Calls Tryz.prog 33 #[.pointer (some ⟨b, 0, none⟩)] w fun e w' => e = .returned (.tuple #[]) ∧ Lib.BuilderAt 59 5 B b (.pointer (some ⟨b, 0, none⟩)) bs w' ∧ Below B w w' ∧ w'.heap.size = w.heap.size ∧ ∀ g, Apart b g w → Apart b g w' ∧ w'.heap[g]? = w.heap[g]? := by
  rcases h with h | h
  · refine (Any.Builder_copyCheck_fresh LayB.lays240 LayB.extra.toX72 b w h.cell0 h.shape h.frozen0).mono ?_
    rintro e w' ⟨rfl, rfl⟩
    refine ⟨rfl, h.used _, (Below.refl B w).setCell (p := ⟨b, 0, none⟩) h.1 _, by simp [World.setCell], fun g hg => ?_⟩
    have hk : (w.setCell ⟨b, 0, none⟩ (.pointer (some ⟨b, 0, none⟩))).heap[g]? = w.heap[g]? := Below.heap_setCell _ _ _ _ hg.1
    refine ⟨⟨hg.1, by simpa [World.setCell] using hg.2.1, fun p v hv => ?_⟩, hk⟩
    obtain ⟨_, v0, hv0, _⟩ := h
    have : (w.setCell ⟨b, 0, none⟩ (.pointer (some ⟨b, 0, none⟩))).heap[b]? = some (.cells #[.pointer (some ⟨b, 0, none⟩), v0] 59 (0, 0)) := by
      simp [World.setCell, Array.getElem?_modify, hv0]
    rw [this] at hv
    injection hv with hv
    injection hv with hv
    injection hv with hv
    injection hv with _ hv
    injection hv with hv
    subst hv
    exact hg.2.2 _ _ hv0
  · refine (Any.Builder_copyCheck_used LayB.lays240 LayB.extra.toX72 b w h.cell0).mono ?_
    rintro e w' ⟨rfl, rfl⟩
    exact ⟨rfl, h, Below.refl _ _, rfl, fun g hg => ⟨hg, rfl⟩⟩

theorem info8 : (Tryz.prog.info? 5).map (fun i => (i.zero, i.size, i.bytes)) = some (some (.int .u8 0), 1, 1) := by kernel_rfl

set_option maxHeartbeats 2000000 in
set_option maxRecDepth 100000 in
theorem writeByte (B b : Nat) (bs : List Value) (c : Int) (w : World) (h : Lib.IsBuilder 59 5 B b bs w) (hlen : bs.length + 1 ≤ 140737488355328) (hBw : B ≤ w.heap.size) :
    Calls Tryz.prog 89 #[.pointer (some ⟨b, 0, none⟩), .int .u8 c] w fun e w' => e = .returned .nilIface ∧ Lib.IsBuilder 59 5 B b (bs ++ [.int .u8 c]) w' ∧ Below B w w' ∧ ∀ g, Apart b g w → Apart b g w' ∧ w'.heap[g]? = w.heap[g]? := by
  obtain ⟨i0, hi, hz0, hz1, hz2⟩ := info_parts info8
  go_enter Tryz.func89, Tryz.ntmps89
  go_wp2_with fail
  refine (copyCheck B b bs w h).mono ?_
  rintro e w1 ⟨rfl, h1, hb1, hsz, hk1⟩
  obtain ⟨hB, v, hbk, hown, hne⟩ := h1
  have c0 : w1.cell? ⟨b, 0, none⟩ = some (.pointer (some ⟨b, 0, none⟩)) := by rw [Lib.cell_of_heap hbk]; rfl
  have c1 : w1.cell? ⟨b, 1, none⟩ = some v := by rw [Lib.cell_of_heap hbk]; rfl
  have HSZ := Aside0.mk hsz; have HK1 := Aside0.mk hk1; clear hsz hk1
  go_wp2_with (at_builtin; refine print_append (w0 := w) B rfl _ _ 57 5 (.int .u8 0) 1 rfl Tryz.underlying57 info8 rfl (by decide) v bs (.int .u8 c) rfl rfl rfl hown hb1 ?c1 ?c2 ?_)
  case c1 => have := hb1.size; omega
  case c2 => omega
  intro v' w2 hown' hB2 hgrow hat
  have hlt : b < w1.heap.size := by
    rcases Nat.lt_or_ge b w1.heap.size with h' | h'
    · exact h'
    · simp [Array.getElem?_eq_none h'] at hbk
  have hb2 : w2.heap[b]? = some (.cells #[.pointer (some ⟨b, 0, none⟩), v] 59 (0, 0)) := by
    rw [hgrow.block b hlt (fun e => hne e.symm)]
    exact hbk
  have d0 : w2.cell? ⟨b, 0, none⟩ = some (.pointer (some ⟨b, 0, none⟩)) := by rw [Lib.cell_of_heap hb2]; rfl
  have d1 : w2.cell? ⟨b, 1, none⟩ = some v := by rw [Lib.cell_of_heap hb2]; rfl
  have f1 : w2.frozen? ⟨b, 1, none⟩ = false := Lib.frozen_of_heap hb2 1
  have HAT := Aside0.mk hat; clear hat
  obtain ⟨g, cap, rfl⟩ : ∃ g cap, v' = .slice (some ⟨g, 0, none⟩) (bs.length + 1) cap := by
    rcases hown'.2 with ⟨_, h0⟩ | ⟨g, cap, cur, hv, _⟩
    · omega
    · exact ⟨g, cap, hv⟩
  go_wp2
  go_ret
  have hsz2 := hgrow.size
  have hsc : ∀ k, k ≠ b → (w2.setCell ⟨b, 1, none⟩ (.slice (some ⟨g, 0, none⟩) (bs.length + 1) cap)).heap[k]? = w2.heap[k]? := fun k hk => Below.heap_setCell _ _ _ _ hk
  have hbk3 : (w2.setCell ⟨b, 1, none⟩ (.slice (some ⟨g, 0, none⟩) (bs.length + 1) cap)).heap[b]? = some (.cells #[.pointer (some ⟨b, 0, none⟩), .slice (some ⟨g, 0, none⟩) (bs.length + 1) cap] 59 (0, 0)) := by
    simp [World.setCell, Array.getElem?_modify, hb2]
  have hgb : g ≠ b := by
    rcases HAT.out with e | ⟨k, e, hk⟩
    · rintro rfl
      exact hne (e.symm.trans (by simp [Value.ownBlock]))
    · have : g = k := by simpa [Value.ownBlock] using e
      omega
  refine ⟨rfl, .inr ⟨hB, .slice (some ⟨g, 0, none⟩) (bs.length + 1) cap, hbk3, ?_, by simpa [Value.ownBlock] using hgb⟩, hB2.setCell (p := ⟨b, 1, none⟩) hB _, ?_⟩
  · rw [List.length_append, List.length_singleton]
    exact own_move hown' (fun k hk => hsc k (by have : g = k := by simpa [Value.ownBlock] using hk
                                                omega))
  · intro k hk
    obtain ⟨hk1, hk2⟩ := HK1.out k hk
    have hkv : some k ≠ v.ownBlock := fun e => hk1.2.2 _ _ hbk e.symm
    have e2 : w2.heap[k]? = w1.heap[k]? := hgrow.block k hk1.2.1 hkv
    refine ⟨⟨hk.1, by simp [World.setCell]; have := hk1.2.1; omega, fun p u hu => ?_⟩, (hsc k hk.1).trans (e2.trans hk2)⟩
    rw [hbk3] at hu
    injection hu with hu
    injection hu with hu
    injection hu with hu
    injection hu with _ hu
    injection hu with hu
    subst hu
    intro e
    have hgk : g = k := by simpa [Value.ownBlock] using e
    rcases HAT.out with e3 | ⟨q, e3, hq⟩
    · exact hkv (by rw [← e3, ← hgk]; simp [Value.ownBlock])
    · have : g = q := by simpa [Value.ownBlock] using e3
      have := hk1.2.1
      omega

end Go.Proofs.YteoebfiacnploaaGreatDoor.Hook
namespace Go.Proofs.YteoebfiacnploaaGreatDoor.SayPure
open Go.RowKit Go.Proofs.YteoebfiacnploaaGreatDoorW.PrintWords

/-- Does a byte stand for itself? -/
def bareI (c : Int) : Bool := decide ((97 ≤ c ∧ c ≤ 122) ∨ (65 ≤ c ∧ c ≤ 90) ∨ (48 ≤ c ∧ c ≤ 57) ∨ c = 45 ∨ c = 95)
/-- The sign of a number from 0 to 15. -/
def hexd (n : Nat) : UInt8 := if n < 10 then (48 + n).toUInt8 else (55 + n).toUInt8
def enc1 (c : UInt8) : List UInt8 := if bareI (c.toNat : Int) = true then [c] else [37, hexd (c.toNat / 16), hexd (c.toNat % 16)]
def word (l : List UInt8) : List UInt8 := 61 :: l.flatMap enc1

theorem enc1_le (c : UInt8) : (enc1 c).length ≤ 3 := by unfold enc1; split <;> simp
theorem word_le (l : List UInt8) : (word l).length ≤ 1 + 3 * l.length := by
  unfold word
  have : (l.flatMap enc1).length ≤ 3 * l.length := by
    induction l with
    | nil => simp
    | cons c l ih =>
      simp only [List.flatMap_cons, List.length_append, List.length_cons]
      have := enc1_le c
      omega
  simp only [List.length_cons]
  omega
theorem take_snoc (l : List UInt8) (k : Nat) (h : k < l.length) : l.take (k + 1) = l.take k ++ [l[k]] := by
  rw [List.take_succ_eq_append_getElem h]
theorem word_snoc (l : List UInt8) (k : Nat) (h : k < l.length) : word (l.take (k + 1)) = word (l.take k) ++ enc1 l[k] := by
  rw [take_snoc l k h]
  show 61 :: (l.take k ++ [l[k]]).flatMap enc1 = (61 :: (l.take k).flatMap enc1) ++ enc1 l[k]
  rw [List.flatMap_append]
  simp
theorem byte_of_bt (s : ByteArray) (k : Nat) (h : k < s.size) : bt s (k : Int) = ((s.data.toList[k]'(by rw [data_length]; exact h)).toNat : Int) := by
  unfold bt
  rw [dif_pos (by simpa using h)]
  simp
  rfl
end Go.Proofs.YteoebfiacnploaaGreatDoor.SayPure
