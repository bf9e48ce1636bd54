/- Contracts of say.Word and of the reference's Word: both write a text as its word. It proves no statement. -/
import Derived.Test.YteoebfiacnploaaGreatDoorQG1
import Derived.Test.YteoebfiacnploaaGreatDoorQSBase
namespace Go.Proofs.YteoebfiacnploaaGreatDoor.Hook
open Go.RowKit Go.Proofs.YteoebfiacnploaaGreatDoorW.PrintWords Go.Proofs.YteoebfiacnploaaGreatDoorW.PrintLast Go.Proofs.YteoebfiacnploaaGreatDoorW.PrintMore Go.Proofs.YteoebfiacnploaaGreatDoor.SayPure
set_option linter.unusedVariables false

theorem bare_f (c : Int) : HBase.say_bare.f c = some (bareI c) := by
  unfold HBase.say_bare.f bareI
  repeat' split
  all_goals (first | (congr 1; symm; simp; omega) | (congr 1; rw [Bool.eq_iff_iff]; simp; omega))

theorem hex_at (n : Nat) (h : n < 16) : ∀ q : n < (⟨#[48, 49, 50, 51, 52, 53, 54, 55, 56, 57, 65, 66, 67, 68, 69, 70]⟩ : ByteArray).size, (⟨#[48, 49, 50, 51, 52, 53, 54, 55, 56, 57, 65, 66, 67, 68, 69, 70]⟩ : ByteArray)[n].toNat = (hexd n).toNat := by
  have key : ∀ m : Fin 16, (⟨#[48, 49, 50, 51, 52, 53, 54, 55, 56, 57, 65, 66, 67, 68, 69, 70]⟩ : ByteArray)[m.val]'(m.isLt) = hexd m.val := by decide
  intro q
  rw [key ⟨n, h⟩]

def say_Word.f (a0 : ByteArray) : Option ByteArray := if a0.size ≤ 1000000 then some ⟨(word a0.data.toList).toArray⟩ else none

theorem fresh_builder (w : World) : Lib.IsBuilder 59 5 w.heap.size w.heap.size [] (w.alloc (.cells #[.pointer none, .slice none 0 0] 59)) :=
  .inl ⟨Nat.le_refl _, .slice none 0 0, heap_alloc_new w _, ⟨by simp, .inl ⟨rfl, rfl⟩⟩, by simp [Value.ownBlock]⟩

theorem isBuilder_old {B b : Nat} {bs : List Value} {w w' : World} (h : Lib.IsBuilder 59 5 B b bs w) (ho : ∀ k, k < w.heap.size → w'.heap[k]? = w.heap[k]?) : Lib.IsBuilder 59 5 B b bs w' := by
  have step : ∀ p, Lib.BuilderAt 59 5 B b p bs w → Lib.BuilderAt 59 5 B b p bs w' := by
    intro p hp
    have hlt := hp.lt
    obtain ⟨hB, v, hv, hown, hne⟩ := hp
    exact ⟨hB, v, (ho b hlt).trans hv, own_move hown (fun k hk => ho k (own_lt hown k hk)), hne⟩
  rcases h with h | h
  · exact .inl (step _ h)
  · exact .inr (step _ h)
theorem isBuilder_lt {B b : Nat} {bs : List Value} {w : World} (h : Lib.IsBuilder 59 5 B b bs w) : b < w.heap.size := by
  rcases h with h | h
  · exact h.lt
  · exact h.lt
/-- A block laid behind the builder's is apart from it. -/
theorem apart_new {B b g : Nat} {bs : List Value} {w w' : World} (h : Lib.IsBuilder 59 5 B b bs w) (ho : ∀ k, k < w.heap.size → w'.heap[k]? = w.heap[k]?) (hg : w.heap.size ≤ g) (hg' : g < w'.heap.size) : Apart b g w' := by
  have hlt := isBuilder_lt h
  refine ⟨by omega, hg', fun p v hv e => ?_⟩
  have key : ∀ p', Lib.BuilderAt 59 5 B b p' bs w → False := by
    intro p' hp
    obtain ⟨_, v', hv', hown, _⟩ := hp
    rw [ho b hlt, hv'] at hv
    injection hv with hv
    injection hv with hv
    injection hv with hv
    injection hv with _ hv
    injection hv with hv
    subst hv
    have := own_lt hown g e
    omega
  rcases h with h | h
  · exact key _ h
  · exact key _ h

set_option maxHeartbeats 4000000 in
set_option maxRecDepth 100000 in
theorem say_Word.calls (a0 : ByteArray) (r : ByteArray) (w : World) (h : say_Word.f a0 = some r) :
    Calls Tryz.prog 63 #[.string a0] w fun e w' => e = .returned (.string r) ∧ Below w.heap.size w w' := by
  unfold say_Word.f at h
  split at h
  rotate_left
  · cases h
  rename_i hsz
  obtain rfl := Option.some.inj h
  clear h
  have hcv := fun W => print_bytes (P := Tryz.prog) 9 57 5 Tryz.underlying9 Tryz.underlying57 Tryz.underlying5 a0 W
  obtain ⟨b, hb⟩ : ∃ b, b = w.heap.size := ⟨_, rfl⟩
  have hI := fresh_builder w; have HI := Aside0.mk hI; clear hI
  go_enter Tryz.func63, Tryz.ntmps63
  go_wp2_with fail
  refine (writeByte _ _ [] 61 _ HI.out (by simp) (by simp)).mono ?_
  rintro e w1 ⟨rfl, h1, hb1, hk1⟩
  go_wp2_with fail
  have ho : ∀ k, k < w1.heap.size → (Lib.bytesWorld w1 5 a0).heap[k]? = w1.heap[k]? := fun k hk => Lib.bytesWorld_at_old w1 _ a0 k hk
  have hI2 := Aside0.mk (isBuilder_old h1 ho)
  have hA2 := Aside0.mk (apart_new h1 ho (Nat.le_refl _) (by rw [Lib.bytesWorld_size]; omega))
  have hr2 := Aside0.mk (bytes_reads w1 5 a0 (by omega))
  have hb1' : Below w.heap.size w w1 := ((Below.refl w.heap.size w).alloc (Nat.le_refl _) _).trans hb1
  have hb2 := Aside0.mk (bytes_below hb1' hb1'.size 5 a0)
  obtain ⟨g, hg⟩ : ∃ g, g = w1.heap.size := ⟨_, rfl⟩
  rw [← hg] at hA2 hr2
  clear hcv ho h1 hk1 hb1 hb1' HI
  generalize Lib.bytesWorld w1 5 a0 = w2 at *
  generalize grownCap w1 a0.size 0 5 = cp
  rw [← hg]
  clear hg
  go_loopw [10] (fun v wr => ∃ j : Int, 0 ≤ j ∧ j ≤ (a0.size : Int) ∧ v = .int .i64 j ∧ Aside0 (Lib.IsBuilder 59 5 w.heap.size w.heap.size (Lib.byteCells (word (a0.data.toList.take j.toNat))) wr) ∧ Aside0 (Below w.heap.size w wr) ∧ Aside0 (Apart w.heap.size g wr) ∧ Aside0 (wr.heap[g]? = w2.heap[g]?)) (fun v _ => a0.size - (intOf v).toNat)
  case atStart => exact ⟨0, by omega, by omega, rfl, hI2, hb2, hA2, ⟨rfl⟩⟩
  case round =>
    obtain ⟨j, hj0, hj, rfl, HI, HB, HA, HG⟩ := hrel
    by_cases hlt : j < (a0.size : Int)
    · obtain ⟨ad, e1, hx0⟩ := hr2.out.at_ j hj0 hlt
      obtain rfl : (⟨g, 0, none⟩ : Addr) = ad := Option.some.inj e1
      clear e1
      rw [rd_bytesOf, add_plain] at hx0
      replace hx0 : wr.cell? ⟨g, j.toNat, none⟩ = some (.int .u8 (bt a0 j)) := (World.cell?_of_block HG.out).trans hx0
      obtain ⟨hc0, hc1⟩ := bt_range a0 j
      have b0 : decide (j < (a0.size : Int)) = true := decide_eq_true hlt
      by_cases hbare : bareI (bt a0 j) = true
      · go_wp2_with fail
        refine (HBase.say_bare.calls (bt a0 j) true _ (by rw [bare_f, hbare])).mono ?_
        rintro e w3 ⟨rfl, ⟨nd, rfl⟩⟩
        go_wp2_with fail
        refine (writeByte _ _ _ (bt a0 j) (wr.drewN nd) (isBuilder_old (w' := wr.drewN nd) HI.out (fun _ _ => rfl)) ?l1 (HB.out.size)).mono ?_
        case l1 => rw [Lib.byteCells_length]; have := word_le (a0.data.toList.take j.toNat); rw [List.length_take] at this; omega
        rintro e w4 ⟨rfl, hI4, hb4, hk4⟩
        have HI4 := Aside0.mk hI4; have HK4 := Aside0.mk hk4; clear hI4 hk4
        go_wp2_with fail
        go_roundw
        case rel =>
          obtain ⟨hA4, hg4⟩ := HK4.out g HA.out
          refine ⟨j + 1, by omega, by omega, rfl, ⟨?_⟩, ⟨(pw_below_drewN HB.out nd).trans hb4⟩, ⟨hA4⟩, ⟨hg4.trans HG.out⟩⟩
          have hk : j.toNat < a0.data.toList.length := by rw [data_length]; omega
          have := word_snoc a0.data.toList j.toNat hk
          rw [show (j + 1).toNat = j.toNat + 1 from by omega, this, Lib.byteCells_append]
          have hbt := byte_of_bt a0 j.toNat (by omega)
          rw [show ((j.toNat : Nat) : Int) = j from by omega] at hbt
          have he : enc1 a0.data.toList[j.toNat] = [a0.data.toList[j.toNat]] := by
            unfold enc1
            rw [← hbt, if_pos hbare]
          rw [he]
          have := HI4.out
          rw [hbt] at this
          exact this
        case measure => simp [intOf]; omega
      · have hbare' : bareI (bt a0 j) = false := by simpa using hbare
        go_wp2_with fail
        refine (HBase.say_bare.calls (bt a0 j) false _ (by rw [bare_f, hbare'])).mono ?_
        rintro e w3 ⟨rfl, ⟨nd, rfl⟩⟩
        go_wp2_with fail
        refine (writeByte _ _ _ 37 (wr.drewN nd) (isBuilder_old (w' := wr.drewN nd) HI.out (fun _ _ => rfl)) ?l1 (HB.out.size)).mono ?_
        case l1 => rw [Lib.byteCells_length]; have := word_le (a0.data.toList.take j.toNat); rw [List.length_take] at this; omega
        rintro e w4 ⟨rfl, hI4, hb4, hk4⟩
        have HI4 := Aside0.mk hI4; have HK4 := Aside0.mk hk4; have HB4 := Aside0.mk ((pw_below_drewN HB.out nd).trans hb4); clear hI4 hk4 hb4
        go_wp2_with fail
        refine (writeByte _ _ _ _ w4 HI4.out ?l2 HB4.out.size).mono ?_
        case l2 => rw [List.length_append, Lib.byteCells_length]; have := word_le (a0.data.toList.take j.toNat); rw [List.length_take] at this; simp; omega
        rintro e w5 ⟨rfl, hI5, hb5, hk5⟩
        have HI5 := Aside0.mk hI5; have HK5 := Aside0.mk hk5; have HB5 := Aside0.mk (HB4.out.trans hb5); clear hI5 hk5 hb5
        have hand := Go.u8_and15 (bt a0 j) hc0 (show bt a0 j < 256 by omega)
        go_wp2_with fail
        refine (writeByte _ _ _ _ w5 HI5.out ?l3 HB5.out.size).mono ?_
        case l3 => rw [List.length_append, List.length_append, Lib.byteCells_length]; have := word_le (a0.data.toList.take j.toNat); rw [List.length_take] at this; simp; omega
        rintro e w6 ⟨rfl, hI6, hb6, hk6⟩
        have HI6 := Aside0.mk hI6; have HK6 := Aside0.mk hk6; have HB6 := Aside0.mk (HB5.out.trans hb6); clear hI6 hk6 hb6
        go_wp2_with fail
        go_roundw
        case rel =>
          obtain ⟨hA4, hg4⟩ := HK4.out g HA.out
          obtain ⟨hA5, hg5⟩ := HK5.out g hA4
          obtain ⟨hA6, hg6⟩ := HK6.out g hA5
          refine ⟨j + 1, by omega, by omega, rfl, ⟨?_⟩, HB6, ⟨hA6⟩, ⟨hg6.trans (hg5.trans (hg4.trans HG.out))⟩⟩
          have hk : j.toNat < a0.data.toList.length := by rw [data_length]; omega
          have := word_snoc a0.data.toList j.toNat hk
          rw [show (j + 1).toNat = j.toNat + 1 from by omega, this, Lib.byteCells_append]
          have hbt := byte_of_bt a0 j.toNat (by omega)
          rw [show ((j.toNat : Nat) : Int) = j from by omega] at hbt
          have he : enc1 a0.data.toList[j.toNat] = [37, hexd (a0.data.toList[j.toNat].toNat / 16), hexd (a0.data.toList[j.toNat].toNat % 16)] := by
            unfold enc1
            rw [← hbt, if_neg hbare]
          rw [he]
          have h6 := HI6.out
          rw [hex_at _ (by omega), hex_at _ (by omega), hbt] at h6
          rw [show ((a0.data.toList[j.toNat].toNat : Int) / 16).toNat = a0.data.toList[j.toNat].toNat / 16 from by omega, show ((a0.data.toList[j.toNat].toNat : Int) % 16).toNat = a0.data.toList[j.toNat].toNat % 16 from by omega] at h6
          simp only [List.append_assoc, List.cons_append, List.nil_append] at h6
          exact h6
        case measure => simp [intOf]; omega
    · have hje : j = (a0.size : Int) := by omega
      have hfin : a0.data.toList.take j.toNat = a0.data.toList := by
        rw [List.take_of_length_le]
        rw [data_length]
        omega
      rw [hfin] at HI
      clear hje hfin
      have b0 : decide (j < (a0.size : Int)) = false := decide_eq_false hlt
      go_wp2_with fail
      refine (Tryz.Builder_String_any _ _ _ wr HI.out HB.out.size).mono ?_
      rintro e w3 ⟨rfl, hb3⟩
      go_wp2_with fail
      go_ret
      exact ⟨rfl, HB.out.trans hb3⟩
end Go.Proofs.YteoebfiacnploaaGreatDoor.Hook
