/- What the evaluator tells of single operations. It proves no statement. -/
import Derived.Test.YtddcgoopgnogeaaGreatDoorEvA
import Derived.Below
import Derived.Laws.IdiomCopy
import Derived.Laws.StructEq
import Derived.ChangeKeysEq
import Derived.Laws.Externs
import Derived.Lib.Bytealg
import Derived.Laws.Tables
set_option linter.unusedVariables false
set_option linter.unusedSimpArgs false
set_option linter.unusedSectionVars false
namespace Go.Proofs.YtddcgoopgnogeaaGreatDoor.Ev
open Go.RowKit (Below)
set_option linter.unusedVariables false
section
variable (ρ : Ren) (η : Env) (nx : Nat) (w : World)
/-- A row lies in the world as it is known. -/
structure RowOk (id el es n d : Nat) (t : Tr AV) : Prop where
  hn : n ≤ 2 ^ d ∧ (es = 0 → ρ.d id = 0 ∧ ∃ cs fr, w.heap[ρ.b id]? = some (.cells cs el fr) ∧ cs.size = n)
  ex : ∃ cs fr, w.heap[ρ.b id]? = some (.cells cs el fr) ∧ ρ.d id + n ≤ cs.size ∧ ρ.d id + ρ.c id * es ≤ cs.size ∧
    (fr.2 ≤ fr.1 ∨ (ρ.d id + n ≤ fr.1 ∧ ρ.d id + ρ.c id * es ≤ fr.1)) ∧
    ∀ i, i < n → ∃ x, t.getN d i = some x ∧ Wf ρ nx x ∧ x.leaf = true ∧ cs[ρ.d id + i]? = some (val ρ η x)
def pairs (l : List (AV × AV)) : List (Value × Value) := l.map fun p => (val ρ η p.1, val ρ η p.2)
/-- Entries' stamps: below the clock, no two alike. -/
def Born (es : Array MapEntry) (clock : Nat) : Prop := (∀ b ∈ es.toList.map (·.born), b < clock) ∧ (es.toList.map (·.born)).Nodup
/-- A map lies in the world as it is known. -/
structure MapOk (id : Nat) (l : List (AV × AV)) : Prop where
  wf : ∀ p ∈ l, Wf ρ nx p.1 ∧ Wf ρ nx p.2
  ex : ∃ es clock, w.heap[ρ.b id]? = some (.map es clock) ∧ es.toList.map (fun e => (e.key, e.val)) = pairs ρ η l ∧ Born es clock
def ObOk (id : Nat) (o : Ob) : Prop :=
  match o with
  | .row el es n d t => RowOk ρ η nx w id el es n d t
  | .mp l => MapOk ρ η nx w id l
end
/-- The evaluator's memory lies in the world; what was there ahead of the call is as it was. -/
structure Sim (η : Env) (base : Nat) (W : World) (ρ : Ren) (H : Heap) (w : World) : Prop where
  lt : H.nx ≤ 32768
  ob : ∀ id o, id < H.nx → H.ob id = some o → base ≤ ρ.b id ∧ ObOk ρ η H.nx w id o
  inj : ∀ i j oi oj, i < H.nx → j < H.nx → H.ob i = some oi → H.ob j = some oj → ρ.b i = ρ.b j → i = j
  below : Below base W w
  hb : base ≤ w.heap.size
section
variable {η : Env} {base : Nat} {W : World} {ρ ρ' : Ren} {H H' : Heap} {w w' : World}
theorem RowOk.ext {nx nx' id el es n d : Nat} {t : Tr AV} (h : RowOk ρ η nx w id el es n d t) (he : Ext ρ ρ' nx) (hn : nx ≤ nx') (hid : id < nx)
    (hw : w'.heap[ρ.b id]? = w.heap[ρ.b id]?) : RowOk ρ' η nx' w' id el es n d t := by
  obtain ⟨h1, cs, fr, h2, h3, h4, h5, h6⟩ := h
  refine ⟨⟨h1.1, fun h0 => ?_⟩, cs, fr, ?_, ?_, ?_, ?_, ?_⟩
  · obtain ⟨k1, k2⟩ := h1.2 h0
    exact ⟨by rw [he.d _ hid]; exact k1, by rw [he.b _ hid, hw]; exact k2⟩
  · rw [he.b _ hid, hw]; exact h2
  · rw [he.d _ hid]; exact h3
  · rw [he.d _ hid, he.c _ hid]; exact h4
  · rw [he.d _ hid, he.c _ hid]; exact h5
  · intro i hi
    obtain ⟨x, g1, g2, g3, g4⟩ := h6 i hi
    obtain ⟨k1, k2⟩ := g2.ext η he hn
    exact ⟨x, g1, k1, g3, by rw [he.d _ hid, k2]; exact g4⟩
theorem MapOk.ext {nx nx' id : Nat} {l : List (AV × AV)} (h : MapOk ρ η nx w id l) (he : Ext ρ ρ' nx) (hn : nx ≤ nx') (hid : id < nx)
    (hw : w'.heap[ρ.b id]? = w.heap[ρ.b id]?) : MapOk ρ' η nx' w' id l := by
  obtain ⟨h1, es, clock, h2, h3, h4⟩ := h
  refine ⟨fun p hp => ⟨((h1 p hp).1.ext η he hn).1, ((h1 p hp).2.ext η he hn).1⟩, es, clock, by rw [he.b _ hid, hw]; exact h2, ?_, h4⟩
  rw [h3]
  unfold pairs
  apply List.map_congr_left
  intro p hp
  rw [((h1 p hp).1.ext η he hn).2, ((h1 p hp).2.ext η he hn).2]
theorem ObOk.ext {nx nx' id : Nat} {o : Ob} (h : ObOk ρ η nx w id o) (he : Ext ρ ρ' nx) (hn : nx ≤ nx') (hid : id < nx)
    (hw : w'.heap[ρ.b id]? = w.heap[ρ.b id]?) : ObOk ρ' η nx' w' id o := by
  cases o with
  | row el es n d t => exact RowOk.ext h he hn hid hw
  | mp l => exact MapOk.ext h he hn hid hw
theorem ObOk.lt {nx id : Nat} {o : Ob} (h : ObOk ρ η nx w id o) : ρ.b id < w.heap.size := by
  have : ∃ x, w.heap[ρ.b id]? = some x := by
    cases o with
    | row el es n d t => obtain ⟨_, cs, fr, h2, _⟩ := h; exact ⟨_, h2⟩
    | mp l => obtain ⟨_, es, c, h2, _⟩ := h; exact ⟨_, h2⟩
  obtain ⟨x, hx⟩ := this
  exact (Array.getElem?_eq_some_iff.1 hx).1
theorem pow15 : (2 : Nat) ^ 15 = 32768 := by decide
theorem Heap.ob_put_same (H : Heap) (id : Nat) (o : Ob) : (H.put id o).ob id = some o := Tr.getN_putN_same _ _ _ _
theorem Heap.ob_put_ne (H : Heap) (id j : Nat) (o : Ob) (hi : id < 32768) (hj : j < 32768) (hne : id ≠ j) : (H.put id o).ob j = H.ob j :=
  Tr.getN_putN_ne _ _ _ _ _ (by rw [pow15]; exact hi) (by rw [pow15]; exact hj) hne
theorem Heap.ob_del_same (H : Heap) (id : Nat) : (H.del id).ob id = none := Tr.getN_delN_same _ _ _
theorem Heap.ob_del_ne (H : Heap) (id j : Nat) (hi : id < 32768) (hj : j < 32768) (hne : id ≠ j) : (H.del id).ob j = H.ob j :=
  Tr.getN_delN_ne _ _ _ _ (by rw [pow15]; exact hi) (by rw [pow15]; exact hj) hne
/-- An object is turned in its block. -/
theorem Sim.put (h : Sim η base W ρ H w) {id : Nat} {o o' : Ob} (hid : id < H.nx) (ho : H.ob id = some o) (ho' : ObOk ρ η H.nx w' id o')
    (hk : ∀ k, k ≠ ρ.b id → w'.heap[k]? = w.heap[k]?) (hs : w'.heap.size = w.heap.size) (h1 : w'.os = w.os) (h2 : w'.tape = w.tape) (h3 : w'.output = w.output) :
    Sim η base W ρ (H.put id o') w' := by
  have hlt := h.lt
  have hbl := (h.ob id o hid ho).1
  refine ⟨hlt, fun j oj hj hoj => ?_, fun i j oi oj hi hj hoi hoj hb => ?_, ?_, by rw [hs]; exact h.hb⟩
  · replace hj : j < H.nx := hj
    by_cases he : id = j
    · subst he
      rw [Heap.ob_put_same] at hoj
      cases hoj
      exact ⟨hbl, ho'⟩
    · rw [Heap.ob_put_ne _ _ _ _ (by omega) (by omega) he] at hoj
      obtain ⟨g1, g2⟩ := h.ob j oj hj hoj
      exact ⟨g1, g2.ext (Ext.refl _ _) (Nat.le_refl _) hj (hk _ fun e => he (h.inj id j _ _ hid hj ho hoj e.symm))⟩
  · replace hi : i < H.nx := hi; replace hj : j < H.nx := hj
    have f : ∀ k ok, k < H.nx → (H.put id o').ob k = some ok → ∃ ok', H.ob k = some ok' := fun k ok hk hok => by
      by_cases he : id = k
      · subst he; exact ⟨o, ho⟩
      · rw [Heap.ob_put_ne _ _ _ _ (by omega) (by omega) he] at hok; exact ⟨_, hok⟩
    obtain ⟨_, a1⟩ := f i _ hi hoi
    obtain ⟨_, a2⟩ := f j _ hj hoj
    exact h.inj i j _ _ hi hj a1 a2 hb
  · exact h.below.trans ⟨h1, h2, h3, by rw [hs]; exact Nat.le_refl _, fun k hkb => hk k (by omega)⟩
/-- An object is forgotten. -/
theorem Sim.del (h : Sim η base W ρ H w) {id : Nat} (hid : id < H.nx) : Sim η base W ρ (H.del id) w := by
  have hlt := h.lt
  have f : ∀ k ok, k < H.nx → (H.del id).ob k = some ok → H.ob k = some ok := fun k ok hk hok => by
    by_cases he : id = k
    · subst he; rw [Heap.ob_del_same] at hok; cases hok
    · rwa [Heap.ob_del_ne _ _ _ (by omega) (by omega) he] at hok
  exact ⟨hlt, fun j oj hj hoj => h.ob j oj hj (f j oj hj hoj), fun i j oi oj hi hj hoi hoj hb => h.inj i j _ _ hi hj (f _ _ hi hoi) (f _ _ hj hoj) hb, h.below, h.hb⟩
/-- A world that only drew. -/
theorem Sim.same (h : Sim η base W ρ H w) (hh : w'.heap = w.heap) (h1 : w'.os = w.os) (h2 : w'.tape = w.tape) (h3 : w'.output = w.output) : Sim η base W ρ H w' := by
  refine ⟨h.lt, fun j oj hj hoj => ?_, h.inj, h.below.trans ⟨h1, h2, h3, by rw [hh]; exact Nat.le_refl _, fun k _ => by rw [hh]⟩, by rw [hh]; exact h.hb⟩
  obtain ⟨g1, g2⟩ := h.ob j oj hj hoj
  exact ⟨g1, g2.ext (Ext.refl _ _) (Nat.le_refl _) hj (by rw [hh])⟩
/-- One more row, under the next number. -/
def Ren.new (ρ : Ren) (nx b d c : Nat) : Ren := ⟨fun i => if i = nx then b else ρ.b i, fun i => if i = nx then d else ρ.d i, fun i => if i = nx then c else ρ.c i⟩
theorem Ren.new_ext (ρ : Ren) (nx b d c : Nat) : Ext ρ (ρ.new nx b d c) nx :=
  ⟨fun i hi => by simp only [Ren.new]; rw [if_neg (by omega)], fun i hi => by simp only [Ren.new]; rw [if_neg (by omega)], fun i hi => by simp only [Ren.new]; rw [if_neg (by omega)]⟩
theorem Heap.new_some {o : Ob} (h : H.new o = some H') : H.nx < 32768 ∧ H' = ⟨H.nx + 1, H.mem.putN o 15 H.nx⟩ := by
  unfold Heap.new at h
  obtain ⟨h1, h2⟩ := brec_some h (by simp)
  injection h2 with h2
  exact ⟨Nat.le_of_ble_eq_true h1, h2.symm⟩
/-- A new object in a block that no live one has. -/
theorem Sim.new (h : Sim η base W ρ H w) {o : Ob} {b d c : Nat} (hn : H.new o = some H') (hbase : base ≤ b)
    (hfree : ∀ i oi, i < H.nx → H.ob i = some oi → ρ.b i ≠ b)
    (hk : ∀ k, k ≠ b → k < w.heap.size → w'.heap[k]? = w.heap[k]?) (hs : w.heap.size ≤ w'.heap.size) (h1 : w'.os = w.os) (h2 : w'.tape = w.tape) (h3 : w'.output = w.output)
    (ho : ObOk (ρ.new H.nx b d c) η (H.nx + 1) w' H.nx o) :
    Ext ρ (ρ.new H.nx b d c) H.nx ∧ Sim η base W (ρ.new H.nx b d c) H' w' ∧ H'.nx = H.nx + 1 := by
  obtain ⟨hlt, rfl⟩ := Heap.new_some hn
  have he := Ren.new_ext ρ H.nx b d c
  have hob : ∀ j oj, j < H.nx + 1 → (⟨H.nx + 1, H.mem.putN o 15 H.nx⟩ : Heap).ob j = some oj → (j = H.nx ∧ oj = o) ∨ (j < H.nx ∧ H.ob j = some oj) := fun j oj hj hoj => by
    by_cases hje : H.nx = j
    · subst hje
      have : (⟨H.nx + 1, H.mem.putN o 15 H.nx⟩ : Heap).ob H.nx = some o := Tr.getN_putN_same _ _ _ _
      rw [this] at hoj; cases hoj
      exact .inl ⟨rfl, rfl⟩
    · have : (⟨H.nx + 1, H.mem.putN o 15 H.nx⟩ : Heap).ob j = H.ob j := Tr.getN_putN_ne _ _ _ _ _ (by rw [pow15]; exact hlt) (by rw [pow15]; omega) hje
      rw [this] at hoj
      exact .inr ⟨by omega, hoj⟩
  have hbn : (ρ.new H.nx b d c).b H.nx = b := by simp [Ren.new]
  refine ⟨he, ⟨hlt, fun j oj hj hoj => ?_, fun i j oi oj hi hj hoi hoj hb => ?_, ?_, by have := h.hb; omega⟩, rfl⟩
  · rcases hob j oj hj hoj with ⟨rfl, rfl⟩ | ⟨hj', hoj'⟩
    · exact ⟨by rw [hbn]; exact hbase, ho⟩
    · obtain ⟨g1, g2⟩ := h.ob j oj hj' hoj'
      exact ⟨by rw [he.b _ hj']; exact g1, g2.ext he (by show H.nx ≤ H.nx + 1; omega) hj' (hk _ (hfree j oj hj' hoj') g2.lt)⟩
  · rcases hob i oi hi hoi with ⟨rfl, rfl⟩ | ⟨hi', hoi'⟩ <;> rcases hob j oj hj hoj with ⟨rfl, rfl⟩ | ⟨hj', hoj'⟩
    · rfl
    · rw [hbn, he.b _ hj'] at hb; exact absurd hb.symm (hfree j oj hj' hoj')
    · rw [hbn, he.b _ hi'] at hb; exact absurd hb (hfree i oi hi' hoi')
    · rw [he.b _ hi', he.b _ hj'] at hb; exact h.inj i j _ _ hi' hj' hoi' hoj' hb
  · exact h.below.trans ⟨h1, h2, h3, hs, fun k hkb => hk k (by omega) (by have := h.hb; omega)⟩
/-! Reading. -/
theorem oget_some {α β : Type} {x : Option α} {f : α → Option β} {r : β} (h : (Option.rec none f x : Option β) = some r) : ∃ a, x = some a ∧ f a = some r := by
  cases x with
  | none => cases h
  | some a => exact ⟨a, rfl, h⟩
theorem ores_some {α : Type} {x : Option α} {f : α → Res} {v : AV} (h : (Option.rec .none f x : Res) = .some v H') : ∃ a, x = some a ∧ f a = .some v H' := by
  cases x with
  | none => cases h
  | some a => exact ⟨a, rfl, h⟩
theorem Ob.get_some {o : Ob} {off : Nat} {x : AV} (h : o.get off = some x) : ∃ el es n d t, o = .row el es n d t ∧ off < n ∧ t.getN d off = some x := by
  cases o with
  | row el es n d t =>
    obtain ⟨h1, h2⟩ := brec_some (b := Nat.ble (Nat.succ off) n) (x := none) (f := t.getN d off) h (by simp)
    exact ⟨el, es, n, d, t, rfl, Nat.le_of_ble_eq_true h1, h2⟩
  | mp l => cases h
/-- A known cell of a live row. -/
theorem Sim.get (h : Sim η base W ρ H w) {id off : Nat} {o : Ob} {x : AV} (hid : id < H.nx) (ho : H.ob id = some o) (hx : o.get off = some x) :
    w.cell? ⟨ρ.b id, ρ.d id + off, none⟩ = some (val ρ η x) ∧ Wf ρ H.nx x ∧ x.leaf = true := by
  obtain ⟨el, es, n, d, t, rfl, h1, h2⟩ := Ob.get_some hx
  obtain ⟨_, hrow⟩ := h.ob id _ hid ho
  obtain ⟨_, cs, fr, g2, g3, g4, g5, g6⟩ := hrow
  obtain ⟨y, k1, k2, k3, k4⟩ := g6 off h1
  rw [h2] at k1
  cases k1
  exact ⟨by simp [World.cell?, g2, k4], k2, k3⟩
theorem Sim.cell (h : Sim η base W ρ H w) {id off : Nat} {x : AV} (hid : id < H.nx) (hx : H.cell id off = some x) :
    w.cell? ⟨ρ.b id, ρ.d id + off, none⟩ = some (val ρ η x) ∧ Wf ρ H.nx x ∧ x.leaf = true := by
  obtain ⟨o, ho, hg⟩ := oget_some hx
  exact h.get hid ho hg
theorem Ob.gets_some {o : Ob} : ∀ {k off : Nat} {l : List AV}, o.gets k off = some l → l.length = k ∧ ∀ j x, l[j]? = some x → o.get (off + j) = some x
  | 0, off, l, h => by
    have : l = [] := by injection h with h; exact h.symm
    subst this
    exact ⟨rfl, by simp⟩
  | k + 1, off, l, h => by
    have h' : (Option.rec none (fun v => Option.rec none (fun l => some (v :: l)) (o.gets k (off + 1))) (o.get off) : Option (List AV)) = some l := h
    obtain ⟨v, h1, h2⟩ := oget_some h'
    obtain ⟨m, h3, h4⟩ := oget_some h2
    injection h4 with h4
    subst h4
    obtain ⟨ih1, ih2⟩ := Ob.gets_some h3
    refine ⟨by simp [ih1], fun j x hj => ?_⟩
    cases j with
    | zero => simp at hj; subst hj; exact h1
    | succ j =>
      have := ih2 j x (by simpa using hj)
      rw [show off + (j + 1) = off + 1 + j by omega]
      exact this
theorem Sim.gets (h : Sim η base W ρ H w) {id off k : Nat} {o : Ob} {l : List AV} (hid : id < H.nx) (ho : H.ob id = some o) (hx : o.gets k off = some l) :
    l.length = k ∧ (∀ j v, (l.map (val ρ η))[j]? = some v → w.cell? ⟨ρ.b id, ρ.d id + off + j, none⟩ = some v) ∧ (∀ x ∈ l, Wf ρ H.nx x) ∧ ∀ x ∈ l, x.leaf = true := by
  obtain ⟨h1, h2⟩ := Ob.gets_some hx
  refine ⟨h1, fun j v hj => ?_, fun x hx => ?_, fun x hx => ?_⟩
  · rw [List.getElem?_map] at hj
    cases hl : l[j]? with
    | none => rw [hl] at hj; cases hj
    | some x =>
      rw [hl] at hj
      cases hj
      rw [Nat.add_assoc]
      exact (h.get hid ho (h2 j x hl)).1
  · obtain ⟨j, hj⟩ := List.getElem?_of_mem hx
    exact (h.get hid ho (h2 j x hj)).2.1
  · obtain ⟨j, hj⟩ := List.getElem?_of_mem hx
    exact (h.get hid ho (h2 j x hj)).2.2
theorem Sim.cells (h : Sim η base W ρ H w) {id off k : Nat} {l : List AV} (hid : id < H.nx) (hx : H.cells id off k = some l) :
    l.length = k ∧ (∀ j v, (l.map (val ρ η))[j]? = some v → w.cell? ⟨ρ.b id, ρ.d id + off + j, none⟩ = some v) ∧ (∀ x ∈ l, Wf ρ H.nx x) ∧ ∀ x ∈ l, x.leaf = true := by
  obtain ⟨o, ho, hg⟩ := oget_some hx
  exact h.gets hid ho hg
end
end Go.Proofs.YtddcgoopgnogeaaGreatDoor.Ev
namespace Go.Proofs.YtddcgoopgnogeaaGreatDoor.Ev
open Go.RowKit (Below)
set_option linter.unusedVariables false
section
variable {η : Env} {base : Nat} {W : World} {ρ ρ' : Ren} {H H' : Heap} {w w' : World}
/-- The unknown values are of one cell each. -/
def Leaves (η : Env) : Prop := ∀ i, (η.f i).oneCell' = true ∧ (η.f i).cells = #[η.f i]
theorem leaf_one (hη : Leaves η) {nx : Nat} {x : AV} (h : Wf ρ nx x) (hl : x.leaf = true) : (val ρ η x).oneCell' = true ∧ (val ρ η x).cells = #[val ρ η x] := by
  cases h <;> first | exact ⟨rfl, rfl⟩ | (cases hl; done) | skip
  rename_i t
  cases t <;> first | exact ⟨rfl, rfl⟩ | exact hη _
theorem Sim.congr (h : Sim η base W ρ H w) (hn : H'.nx = H.nx) (ho : ∀ id, id < H.nx → H'.ob id = H.ob id) : Sim η base W ρ H' w := by
  refine ⟨by rw [hn]; exact h.lt, fun id o hid hob => ?_, fun i j oi oj hi hj hoi hoj hb => ?_, h.below, h.hb⟩
  · rw [hn] at hid
    rw [ho _ hid] at hob
    rw [hn]
    exact h.ob id o hid hob
  · rw [hn] at hi hj
    rw [ho _ hi] at hoi
    rw [ho _ hj] at hoj
    exact h.inj i j _ _ hi hj hoi hoj hb
theorem Ob.set_some {o o' : Ob} {off : Nat} {v : AV} (h : o.set off v = some o') :
    ∃ el es n d t x, o = .row el es n d t ∧ off < n ∧ t.getN d off = some x ∧ o' = .row el es n d (t.putN v d off) := by
  cases o with
  | row el es n d t =>
    have h' : (Bool.rec none (Option.rec none (fun _ => some (Ob.row el es n d (t.putN v d off))) (t.getN d off) : Option Ob) (Nat.ble (Nat.succ off) n) : Option Ob) = some o' := h
    obtain ⟨h1, h2⟩ := brec_some h' (by simp)
    obtain ⟨x, h3, h4⟩ := oget_some h2
    injection h4 with h4
    exact ⟨el, es, n, d, t, x, rfl, Nat.le_of_ble_eq_true h1, h3, h4.symm⟩
  | mp l => cases h
theorem Sim.set1 (h : Sim η base W ρ H w) {id off : Nat} {o o' : Ob} {v : AV} (hid : id < H.nx) (ho : H.ob id = some o) (hs : o.set off v = some o')
    (hv : Wf ρ H.nx v) (hl : v.leaf = true) :
    (w.cell? ⟨ρ.b id, ρ.d id + off, none⟩).isSome = true ∧ w.frozen? ⟨ρ.b id, ρ.d id + off, none⟩ = false ∧
      Sim η base W ρ (H.put id o') (w.setCell ⟨ρ.b id, ρ.d id + off, none⟩ (val ρ η v)) := by
  obtain ⟨el, es, n, d, t, x, rfl, h1, h2, rfl⟩ := Ob.set_some hs
  obtain ⟨_, hrow⟩ := h.ob id _ hid ho
  have hrow' : RowOk ρ η H.nx w id el es n d t := hrow
  obtain ⟨hn, cs, fr, g2, g3, g4, g5, g6⟩ := hrow'
  obtain ⟨y, k1, k2, k3, k4⟩ := g6 off h1
  have hlt : ρ.b id < w.heap.size := (Array.getElem?_eq_some_iff.1 g2).1
  have hcell : (w.setCell ⟨ρ.b id, ρ.d id + off, none⟩ (val ρ η v)).heap[ρ.b id]? = some (.cells (cs.setIfInBounds (ρ.d id + off) (val ρ η v)) el fr) := by
    simp only [World.setCell, Array.getElem?_modify, if_true, g2, Option.map_some]
    rfl
  refine ⟨by simp [World.cell?, g2, k4], ?_, ?_⟩
  · simp only [World.frozen?, g2]
    obtain ⟨lo, hi⟩ := fr
    simp only at g5 ⊢
    rcases g5 with g5 | ⟨g5, _⟩
    · rw [Bool.and_eq_false_iff]; simp only [decide_eq_false_iff_not]; omega
    · rw [Bool.and_eq_false_iff]; simp only [decide_eq_false_iff_not]; omega
  · refine h.put hid ho ?_ (fun k hk => ?_) (by simp [World.setCell]) rfl rfl rfl
    · refine ⟨⟨hn.1, fun h0 => ?_⟩, _, fr, hcell, by simpa using g3, by simpa using g4, g5, fun i hi => ?_⟩
      · obtain ⟨v1, cs2, fr2, v2, v3⟩ := hn.2 h0
        rw [g2] at v2
        injection v2 with v2
        injection v2 with v2
        subst v2
        exact ⟨v1, _, _, hcell, by simpa using v3⟩
      by_cases hio : i = off
      · subst hio
        refine ⟨v, Tr.getN_putN_same _ _ _ _, hv, hl, ?_⟩
        have : ρ.d id + i < cs.size := by omega
        rw [Array.getElem?_setIfInBounds_self]
        simp [this]
      · obtain ⟨z, m1, m2, m3, m4⟩ := g6 i hi
        refine ⟨z, ?_, m2, m3, ?_⟩
        · have hn1 := hn.1
          rw [Tr.getN_putN_ne _ _ _ _ _ (by omega) (by omega) (Ne.symm hio)]; exact m1
        · rw [Array.getElem?_setIfInBounds_ne (by omega)]; exact m4
    · simp only [World.setCell, Array.getElem?_modify]
      rw [if_neg (by omega)]
theorem Sim.sets_aux : ∀ (l : List AV) (off : Nat) (H : Heap) (w : World) (o o' : Ob) (id : Nat), Sim η base W ρ H w → id < H.nx → H.ob id = some o → o.sets l off = some o' →
    (∀ x ∈ l, Wf ρ H.nx x ∧ x.leaf = true) →
    (∀ j, j < l.length → (w.cell? ⟨ρ.b id, ρ.d id + off + j, none⟩).isSome = true) ∧ (∀ j, j < l.length → w.frozen? ⟨ρ.b id, ρ.d id + off + j, none⟩ = false) ∧
      Sim η base W ρ (H.put id o') (w.setCells (ρ.b id) (ρ.d id + off) (l.map (val ρ η)))
  | [], off, H, w, o, o', id, h, hid, ho, hs, hw => by
    have : o = o' := by injection hs
    subst this
    refine ⟨fun j hj => by simp at hj, fun j hj => by simp at hj, h.congr rfl fun k hk => ?_⟩
    have := h.lt
    by_cases he : id = k
    · subst he; rw [Heap.ob_put_same, ho]
    · exact Heap.ob_put_ne _ _ _ _ (by omega) (by omega) he
  | v :: l, off, H, w, o, o', id, h, hid, ho, hs, hw => by
    have hs' : (Option.rec none (fun o1 => Ob.sets l (Nat.succ off) o1) (o.set off v) : Option Ob) = some o' := hs
    obtain ⟨o1, h1, h2⟩ := oget_some hs'
    obtain ⟨a1, a2, a3⟩ := h.set1 hid ho h1 (hw v (by simp)).1 (hw v (by simp)).2
    obtain ⟨b1, b2, b3⟩ := Sim.sets_aux l (off + 1) (H.put id o1) _ o1 o' id a3 hid (Heap.ob_put_same _ _ _) h2 (fun x hx => hw x (by simp [hx]))
    refine ⟨fun j hj => ?_, fun j hj => ?_, ?_⟩
    · cases j with
      | zero => exact a1
      | succ j =>
        have := b1 j (by simpa using hj)
        rw [World.cell?_setCell_other _ _ _ _ (by simp; omega)] at this
        rwa [show ρ.d id + off + (j + 1) = ρ.d id + (off + 1) + j by omega]
    · cases j with
      | zero => exact a2
      | succ j =>
        have := b2 j (by simpa using hj)
        rw [World.frozen?_setCell] at this
        rwa [show ρ.d id + off + (j + 1) = ρ.d id + (off + 1) + j by omega]
    · refine b3.congr rfl fun k hk => ?_
      have := h.lt
      have hk' : k < H.nx := hk
      by_cases he : id = k
      · subst he; rw [Heap.ob_put_same, Heap.ob_put_same]
      · rw [Heap.ob_put_ne _ _ _ _ (by omega) (by omega) he, Heap.ob_put_ne _ _ _ _ (by omega) (by omega) he, Heap.ob_put_ne _ _ _ _ (by omega) (by omega) he]
/-- Known cells of a live row are written. -/
theorem Sim.sets {P : Program} (hη : Leaves η) (h : Sim η base W ρ H w) {id off : Nat} {l : List AV} (hid : id < H.nx) (hs : H.sets id off l = some H') (hw : ∀ x ∈ l, Wf ρ H.nx x ∧ x.leaf = true) :
    ∃ w', (storeCells ⟨ρ.b id, ρ.d id + off, none⟩ (l.map (val ρ η))).run P w = .ok () w' ∧ Sim η base W ρ H' w' ∧ H'.nx = H.nx := by
  obtain ⟨o, ho, h1⟩ := oget_some hs
  obtain ⟨o', h2, h3⟩ := oget_some h1
  injection h3 with h3
  subst h3
  obtain ⟨b1, b2, b3⟩ := Sim.sets_aux l off H w o o' id h hid ho h2 hw
  have hrun := run_storeCells_cells (P := P) (ρ.b id) (ρ.d id + off) (l.map (val ρ η)) 0 w (fun j hj => by simpa using b1 j (by simpa using hj)) (fun j hj => by simpa using b2 j (by simpa using hj))
    (fun v hv => by
      obtain ⟨x, hx, rfl⟩ := List.mem_map.1 hv
      exact (leaf_one hη (hw x hx).1 (hw x hx).2).1)
  exact ⟨_, hrun, b3, rfl⟩
end
end Go.Proofs.YtddcgoopgnogeaaGreatDoor.Ev
namespace Go.Proofs.YtddcgoopgnogeaaGreatDoor.Ev
open Go.RowKit (Below)
set_option linter.unusedVariables false
theorem bytesN_go : ∀ (l : List UInt8) (k acc : Nat), acc < 2 ^ (8 * k) →
    (List.rec (fun acc => acc) (fun b _ ih acc => ih (Nat.add (Nat.mul acc 256) b)) (l.map (·.toNat)) acc : Nat) < 2 ^ (8 * (k + l.length)) ∧
    bytesOf (k + l.length) (List.rec (fun acc => acc) (fun b _ ih acc => ih (Nat.add (Nat.mul acc 256) b)) (l.map (·.toNat)) acc : Nat) = bytesOf k acc ++ l
  | [], k, acc, h => ⟨h, by simp⟩
  | b :: l, k, acc, h => by
    have hb : b.toNat < 2 ^ (8 * 1) := b.toNat_lt
    have h1 : acc * 256 + b.toNat < 2 ^ (8 * (k + 1)) := by
      have := append_lt (l := k) (l' := 1) h hb
      rwa [shl_eq] at this
    obtain ⟨i1, i2⟩ := bytesN_go l (k + 1) (acc * 256 + b.toNat) h1
    have e : k + (b :: l).length = k + 1 + l.length := by simp; omega
    rw [e]
    refine ⟨i1, ?_⟩
    refine i2.trans ?_
    have h2 := bytesOf_append (l := k) (l' := 1) (n := acc) hb
    rw [shl_eq] at h2
    rw [show acc * 256 = acc * 2 ^ (8 * 1) from rfl, h2]
    have h3 : bytesOf 1 b.toNat = [b] := by simp [bytesOf, byteAt, List.range_succ]
    rw [h3]
    simp
theorem bytesN_ok (l : List UInt8) : bytesN (l.map (·.toNat)) < 2 ^ (8 * l.length) ∧ bytesOf l.length (bytesN (l.map (·.toNat))) = l := by
  have := bytesN_go l 0 0 (by decide)
  rw [Nat.zero_add] at this
  exact ⟨this.1, this.2.trans (by simp [bytesOf])⟩
section
variable (ρ : Ren) (η : Env) (nx : Nat)
theorem absL_sound (v : Value) : absL v = .any ∨ (Wf ρ nx (absL v) ∧ val ρ η (absL v) = v ∧ (absL v).leaf = true) := by
  unfold absL
  split
  · exact .inr ⟨.bool _, rfl, rfl⟩
  · rename_i k n
    split
    · rename_i K hK
      have h := kOk hK
      have hm := h.mpos
      have hlt : (n % (K.m : Int)).toNat < K.m := by
        have h1 := Int.emod_nonneg n (show (K.m : Int) ≠ 0 by omega)
        have h2 := Int.emod_lt_of_pos n (show (0 : Int) < K.m by omega)
        omega
      split
      · rename_i he
        refine .inr ⟨(h.wf _ _ _).2 hlt, by rw [h.valof _ _ _ hlt, he], ?_⟩
        cases k <;> first | (cases hK; done) | (injection hK with hK; subst hK; rfl)
      · exact .inl rfl
    · exact .inl rfl
  · rename_i s
    obtain ⟨h1, h2⟩ := bytesN_ok s.data.toList
    refine .inr ⟨.str h1, ?_, rfl⟩
    simp only [val, h2]
  · exact .inr ⟨.nilp, rfl, rfl⟩
  · exact .inr ⟨.nils, rfl, rfl⟩
  · exact .inr ⟨.nilm, rfl, rfl⟩
  · exact .inr ⟨.nilf, rfl, rfl⟩
  · exact .inr ⟨.nili, rfl, rfl⟩
  · exact .inl rfl
theorem map_absL (l : List Value) (h : ∀ x ∈ l.map absL, x.ok = true) : (∀ x ∈ l.map absL, Wf ρ nx x ∧ x.leaf = true) ∧ (l.map absL).map (val ρ η) = l := by
  induction l with
  | nil => simp
  | cons v l ih =>
    have h1 := h (absL v) (by simp)
    rcases absL_sound ρ η nx v with h2 | ⟨h2, h3, h4⟩
    · rw [h2] at h1; cases h1
    · obtain ⟨i1, i2⟩ := ih (fun x hx => h x (by simp only [List.map_cons, List.mem_cons]; exact .inr hx))
      refine ⟨fun x hx => ?_, ?_⟩
      · simp only [List.map_cons, List.mem_cons] at hx
        rcases hx with rfl | hx
        · exact ⟨h2, h4⟩
        · exact i1 x hx
      · simp only [List.map_cons, h3, i2]
theorem leaf_ok {x : AV} (h : x.leaf = true) : x.ok = true := by cases x <;> first | rfl | cases h
theorem abs_sound (v : Value) : abs v = .any ∨ (Wf ρ nx (abs v) ∧ val ρ η (abs v) = v) := by
  unfold abs
  split
  · rename_i cs
    cases h : leaves (cs.toList.map absL)
    · exact .inl rfl
    · have h1 := (leaves_iff _).1 h
      obtain ⟨h2, h3⟩ := map_absL ρ η nx cs.toList (fun x hx => leaf_ok (h1 x hx))
      exact .inr ⟨.agg (fun x hx => (h2 x hx).1) h1, by simp only [val, vals_eq, h3]⟩
  · rename_i cs
    cases h : oks (cs.toList.map absL)
    · exact .inl rfl
    · have h1 := (oks_iff _).1 h
      obtain ⟨h2, h3⟩ := map_absL ρ η nx cs.toList h1
      exact .inr ⟨.tup (fun x hx => (h2 x hx).1), by simp only [val, vals_eq, h3]⟩
  · rcases absL_sound ρ η nx v with h | h
    · exact .inl h
    · exact .inr ⟨h.1, h.2.1⟩
end
/-- The evaluator's slots tell an activation's. -/
structure LocOk (η : Env) (ρ : Ren) (nx : Nat) (L : Loc) (a : Act) : Prop where
  get : ∀ t, t < 256 → L.get t = .any ∨ (Wf ρ nx (L.get t) ∧ a.tmps.getD t undef = val ρ η (L.get t))
  defers : a.defers = η.D
section
variable {η : Env} {ρ ρ' : Ren} {nx nx' : Nat} {L : Loc} {a : Act}
/-- A value that is known tells a value. -/
def Tells (η : Env) (ρ : Ren) (nx : Nat) (x : AV) (v : Value) : Prop := x = .any ∨ (Wf ρ nx x ∧ v = val ρ η x)
theorem Tells.of {x : AV} {v : Value} (h : Tells η ρ nx x v) (hx : x ≠ .any) : Wf ρ nx x ∧ v = val ρ η x := h.resolve_left hx
theorem Tells.ok {x : AV} {v : Value} (h : Tells η ρ nx x v) (hx : x.ok = true) : Wf ρ nx x ∧ v = val ρ η x := h.resolve_left (by rintro rfl; cases hx)
theorem gOf_sound (h : LocOk η ρ nx L a) (x : Operand) : Tells η ρ nx ((gOf x).g L) (a.eval x) := by
  cases x with
  | tmp t =>
    by_cases ht : t < 256
    · have : (gOf (.tmp t)).g L = L.get t := by simp only [gOf, if_pos ht]; rfl
      rw [this]
      exact h.get t ht
    · have : (gOf (.tmp t)).g L = .any := by simp only [gOf, if_neg ht]
      exact .inl this
  | const v =>
    rcases abs_sound ρ η nx v with h | h
    · exact .inl h
    · exact .inr ⟨h.1, h.2.symm⟩
  | global g => exact .inl rfl
  | func f =>
    refine .inr ⟨.fn (by simp), ?_⟩
    show Value.func (Fn.func f) #[] #[] = val ρ η (.fn f [])
    simp [val, vals]
theorem LocOk.ext (h : LocOk η ρ nx L a) (he : Ext ρ ρ' nx) (hn : nx ≤ nx') : LocOk η ρ' nx' L a :=
  ⟨fun t ht => (h.get t ht).imp id fun ⟨h1, h2⟩ => ⟨(h1.ext η he hn).1, by rw [(h1.ext η he hn).2]; exact h2⟩, h.defers⟩
theorem getD_set (l : Array Value) (d t : Nat) (v u : Value) : (l.setIfInBounds d v).getD t u = if d = t ∧ d < l.size then v else l.getD t u := by
  simp only [Array.getD_eq_getD_getElem?]
  by_cases h : d = t
  · subst h
    rw [Array.getElem?_setIfInBounds_self]
    by_cases h2 : d < l.size
    · simp [h2]
    · simp [h2]
  · rw [Array.getElem?_setIfInBounds_ne h, if_neg (by omega)]
theorem LocOk.put (h : LocOk η ρ nx L a) {d : Option Tmp} {x : AV} {v : Value} (hx : Tells η ρ nx x v) (hd : ∀ t, d = some t → t < 256 ∧ t < a.tmps.size) :
    LocOk η ρ nx ((putC d).put x L) (a.put d v) := by
  cases d with
  | none => exact h
  | some d =>
    obtain ⟨h1, h2⟩ := hd d rfl
    refine ⟨fun t ht => ?_, h.defers⟩
    have e1 : ((putC (some d)).put x L).get t = if t = d then x else L.get t := Loc.get_put t d ht h1 x L
    have e2 : (a.put (some d) v).tmps.getD t undef = if d = t ∧ d < a.tmps.size then v else a.tmps.getD t undef := getD_set _ _ _ _ _
    rw [e1, e2]
    by_cases hdt : t = d
    · subst hdt
      rw [if_pos rfl, if_pos ⟨rfl, h2⟩]
      exact hx
    · rw [if_neg hdt, if_neg (fun e => hdt e.1.symm)]
      exact h.get t ht
end
end Go.Proofs.YtddcgoopgnogeaaGreatDoor.Ev
namespace Go.Proofs.YtddcgoopgnogeaaGreatDoor.Ev
open Go.RowKit (Below)
set_option linter.unusedVariables false
section
variable {P : Program} {w : World} {η : Env} {ρ : Ren} {nx : Nat}
theorem szOf_some {t : TypeId} {n : Nat} (h : szOf P t = some n) : ∃ i, P.info? t = some i ∧ i.size = n := by
  unfold szOf at h
  cases hi : P.info? t with
  | none => rw [hi] at h; cases h
  | some i => rw [hi] at h; injection h with h; exact ⟨i, rfl, h⟩
theorem run_szOf {t : TypeId} {n : Nat} (h : szOf P t = some n) : (sizeOf t).run P w = .ok n w := by
  obtain ⟨i, h1, h2⟩ := szOf_some h
  rw [run_sizeOf w h1, Program.cellsOf, h1]
  simp [h2]
theorem cellsOf_szOf {t : TypeId} {n : Nat} (h : szOf P t = some n) : P.cellsOf t = n := by
  obtain ⟨i, h1, h2⟩ := szOf_some h
  simp [Program.cellsOf, h1, h2]
theorem run_isAgg {t : TypeId} {b : Bool} (h : aggOf P t = some b) : (isAgg t).run P w = .ok b w := by
  unfold aggOf at h
  cases hu : P.underlying t with
  | none => rw [hu] at h; cases h
  | some d => cases d <;> rw [hu] at h <;> injection h with h <;> subst h <;> simp [isAgg, run_underlying hu]
theorem zeroOf_some {t : TypeId} {z : AV} (h : zeroOf P t = some z) : ∃ i v, P.info? t = some i ∧ i.zero = some v ∧ abs v = z ∧ z.ok = true ∧ ∀ x ∈ z.cells, x.leaf = true := by
  unfold zeroOf at h
  split at h
  · cases h
  · rename_i v hv
    split at h
    · rename_i h1 h2
      injection h with h
      cases hi : P.info? t with
      | none => rw [hi] at hv; cases hv
      | some i =>
        rw [hi] at hv
        exact ⟨i, v, rfl, hv, h, h ▸ h1, h ▸ (leaves_iff _).1 h2⟩
    · cases h
theorem abs_ok {v : Value} {z : AV} (h : abs v = z) (hz : z.ok = true) : Wf ρ nx z ∧ v = val ρ η z := by
  rcases abs_sound ρ η nx v with h1 | ⟨h1, h2⟩
  · rw [h] at h1; subst h1; cases hz
  · rw [h] at h1 h2; exact ⟨h1, h2.symm⟩
theorem run_zeroOf {t : TypeId} {z : AV} (h : zeroOf P t = some z) : (zeroValue t).run P w = .ok (val ρ η z) w ∧ Wf ρ nx z ∧ ∀ x ∈ z.cells, x.leaf = true := by
  obtain ⟨i, v, h1, h2, h3, h4, h5⟩ := zeroOf_some h
  obtain ⟨h6, h7⟩ := abs_ok (ρ := ρ) (η := η) (nx := nx) h3 h4
  exact ⟨by rw [← h7]; simp [zeroValue, run_typeInfo w h1, h2], h6, h5⟩
theorem leafK_agg {t : TypeId} {k : LK} (h : leafK P t = some k) : aggOf P t = some false := by
  unfold leafK at h
  unfold aggOf
  cases hu : P.underlying t with
  | none => rw [hu] at h; cases h
  | some d => cases d <;> rw [hu] at h <;> first | (cases h; done) | rfl
theorem run_part_leaf {t : TypeId} (h : aggOf P t = some false) {cs : Array Value} {off : Nat} {v : Value} (hv : cs[off]? = some v) : (part t cs off).run P w = .ok v w := by
  simp [part, run_isAgg h, hv]
/-! Equality. -/
theorem eqB_some {x y : AV} {b : Bool} (h : eqB x y = some b) : ∃ p q, x = .bool p ∧ y = .bool q ∧ b = (p == q) := by
  unfold eqB at h
  obtain ⟨p, h1, h2⟩ := oget_some h
  obtain ⟨q, h3, h4⟩ := oget_some h2
  injection h4 with h4
  exact ⟨p, q, vb_some h1, vb_some h3, by subst h4; cases p <;> cases q <;> rfl⟩
theorem iv64_inj {a b : Nat} (ha : a < 18446744073709551616) (hb : b < 18446744073709551616) : iv64 a = iv64 b ↔ a = b := by
  unfold iv64
  constructor
  · split <;> split <;> omega
  · rintro rfl; rfl
theorem eqI_some {x y : AV} {b : Bool} (hx : Wf ρ nx x) (hy : Wf ρ nx y) (h : eqI x y = some b) : ∃ k p q, val ρ η x = .int k p ∧ val ρ η y = .int k q ∧ b = (p == q) := by
  unfold eqI at h
  split at h
  · rename_i p q
    injection h with h
    cases hx with | i64 h1 => cases hy with | i64 h2 =>
    refine ⟨_, _, _, rfl, rfl, ?_⟩
    rw [← h, beq_eq, show (iv64 p == iv64 q) = decide (iv64 p = iv64 q) from rfl, decide_eq_decide.2 (iv64_inj h1 h2)]
  all_goals first
    | (rename_i p q
       injection h with h
       refine ⟨_, _, _, rfl, rfl, ?_⟩
       rw [← h, beq_eq, show ((p : Int) == (q : Int)) = decide ((p : Int) = (q : Int)) from rfl, decide_eq_decide]
       omega)
    | cases h
theorem eqS_some {x y : AV} {b : Bool} (hx : Wf ρ nx x) (hy : Wf ρ nx y) (h : eqS x y = some b) : ∃ p q : ByteArray, val ρ η x = .string p ∧ val ρ η y = .string q ∧ b = (p.toList == q.toList) := by
  unfold eqS at h
  cases h1 : x.vs with
  | no => rw [h1] at h; cases h
  | str l n =>
    rw [h1] at h
    cases h2 : y.vs with
    | no => rw [h2] at h; cases h
    | str l' n' =>
      rw [h2] at h
      injection h with h
      obtain rfl := vs_str h1
      obtain rfl := vs_str h2
      exact ⟨_, _, rfl, rfl, by rw [ByteArray.toList_mk, ByteArray.toList_mk, strEq_of hx.str_lt hy.str_lt, ← h]⟩
theorem run_eqK {t : TypeId} {k : LK} (ht : leafK P t = some k) {x y : AV} {b : Bool} (hx : Wf ρ nx x) (hy : Wf ρ nx y) (h : eqK k x y = some b) (d : Nat) :
    (Op.equalIn (d + 1) t (val ρ η x) (val ρ η y)).run P w = .ok b w := by
  unfold leafK at ht
  cases hu : P.underlying t with
  | none => rw [hu] at ht; cases ht
  | some td =>
    cases td <;> rw [hu] at ht <;> first | (cases ht; done) | skip
    · injection ht with ht; subst ht
      obtain ⟨p, q, rfl, rfl, rfl⟩ := eqB_some h
      exact run_equalIn_bool' w d t p q hu
    · injection ht with ht; subst ht
      obtain ⟨k, p, q, h1, h2, rfl⟩ := eqI_some (η := η) hx hy h
      rw [h1, h2]
      exact run_equalIn_int w d t k _ p q hu
    · injection ht with ht; subst ht
      obtain ⟨p, q, h1, h2, rfl⟩ := eqS_some (η := η) hx hy h
      rw [h1, h2]
      exact run_equalIn_string w d t p q hu
theorem eqCells_nil {l m : List AV} {b : Bool} (h : eqCells [] l m = some b) : l = [] ∧ m = [] ∧ b = true := by
  cases l with
  | nil => cases m with
    | nil => injection h with h; exact ⟨rfl, rfl, h.symm⟩
    | cons y m => cases h
  | cons x l => cases h
theorem eqCells_cons {k : LK} {ks : List LK} {l m : List AV} {b : Bool} (h : eqCells (k :: ks) l m = some b) :
    ∃ x l' y m' c, l = x :: l' ∧ m = y :: m' ∧ eqK k x y = some c ∧ (c = false → b = false) ∧ (c = true → eqCells ks l' m' = some b) := by
  cases l with
  | nil => cases h
  | cons x l => cases m with
    | nil => cases h
    | cons y m =>
      have h' : (Option.rec none (fun b => Bool.rec (some false) (eqCells ks l m) b) (eqK k x y) : Option Bool) = some b := h
      obtain ⟨c, h1, h2⟩ := oget_some h'
      refine ⟨x, l, y, m, c, rfl, rfl, h1, ?_, ?_⟩
      · rintro rfl; injection h2 with h2; exact h2.symm
      · rintro rfl; exact h2
theorem run_eqFields (d : Nat) : ∀ (fs : List Field) (i : Nat) (ks : List LK) (l m : List AV) (xs ys : Array Value) (b : Bool), flatAt P fs i = some ks → eqCells ks l m = some b →
    (∀ x ∈ l, Wf ρ nx x) → (∀ x ∈ m, Wf ρ nx x) → (∀ j x, l[j]? = some x → xs[i + j]? = some (val ρ η x)) → (∀ j x, m[j]? = some x → ys[i + j]? = some (val ρ η x)) →
    (Op.eqFields (d + 1) xs ys fs).run P w = .ok b w
  | [], i, ks, l, m, xs, ys, b, hf, h, hl, hm, hx, hy => by
    injection hf with hf
    subst hf
    obtain ⟨rfl, rfl, rfl⟩ := eqCells_nil h
    simp [Op.eqFields]
  | f :: fs, i, ks, l, m, xs, ys, b, hf, h, hl, hm, hx, hy => by
    simp only [flatAt] at hf
    split at hf
    · rename_i hc
      obtain ⟨h1, h2, h3⟩ := hc
      cases hk : leafK P f.type with
      | none => rw [hk] at hf; cases hf
      | some k =>
        rw [hk] at hf
        cases hks : flatAt P fs (i + 1) with
        | none => rw [hks] at hf; cases hf
        | some ks' =>
          rw [hks] at hf
          simp at hf
          subst hf
          obtain ⟨x, l', y, m', c, rfl, rfl, hc, hc0, hc1⟩ := eqCells_cons h
          have hxv := hx 0 x rfl
          have hyv := hy 0 y rfl
          rw [Nat.add_zero] at hxv hyv
          simp only [Op.eqFields]
          rw [if_pos h2]
          simp only [Sem.run_bind, h1, run_part_leaf (leafK_agg hk) hxv, run_part_leaf (leafK_agg hk) hyv, Result.andThen_ok, run_eqK hk (hl x (by simp)) (hm y (by simp)) hc d]
          cases c with
          | false => simp [hc0 rfl]
          | true =>
            simp only [Bool.not_true, Bool.false_eq_true, if_false]
            exact run_eqFields d fs (i + 1) ks' l' m' xs ys b hks (hc1 rfl) (fun z hz => hl z (by simp [hz])) (fun z hz => hm z (by simp [hz]))
              (fun j z hj => by have := hx (j + 1) z (by simpa using hj); rwa [show i + (j + 1) = i + 1 + j by omega] at this)
              (fun j z hj => by have := hy (j + 1) z (by simpa using hj); rwa [show i + (j + 1) = i + 1 + j by omega] at this)
    · cases hf
theorem run_eqItems (d : Nat) {e : TypeId} {k : LK} (hk : leafK P e = some k) (hs : szOf P e = some 1) : ∀ (n i : Nat) (l m : List AV) (xs ys : Array Value) (b : Bool), eqCells (List.replicate n k) l m = some b →
    (∀ x ∈ l, Wf ρ nx x) → (∀ x ∈ m, Wf ρ nx x) → (∀ j x, l[j]? = some x → xs[i + j]? = some (val ρ η x)) → (∀ j x, m[j]? = some x → ys[i + j]? = some (val ρ η x)) →
    (Op.eqItems (d + 1) e (P.cellsOf e) xs ys (List.range' i n)).run P w = .ok b w
  | 0, i, l, m, xs, ys, b, h, hl, hm, hx, hy => by
    obtain ⟨rfl, rfl, rfl⟩ := eqCells_nil h
    simp [Op.eqItems]
  | n + 1, i, l, m, xs, ys, b, h, hl, hm, hx, hy => by
    rw [List.replicate_succ] at h
    obtain ⟨x, l', y, m', c, rfl, rfl, hc, hc0, hc1⟩ := eqCells_cons h
    have hxv := hx 0 x rfl
    have hyv := hy 0 y rfl
    rw [Nat.add_zero] at hxv hyv
    rw [List.range'_succ]
    have hcs := cellsOf_szOf hs
    simp only [Op.eqItems, Sem.run_bind, hcs, Nat.mul_one, run_part_leaf (leafK_agg hk) hxv, run_part_leaf (leafK_agg hk) hyv, Result.andThen_ok, run_eqK hk (hl x (by simp)) (hm y (by simp)) hc d]
    cases c with
    | false => simp [hc0 rfl]
    | true =>
      simp only [Bool.not_true, Bool.false_eq_true, if_false]
      have := run_eqItems d hk hs n (i + 1) l' m' xs ys b (hc1 rfl) (fun z hz => hl z (by simp [hz])) (fun z hz => hm z (by simp [hz]))
        (fun j z hj => by have := hx (j + 1) z (by simpa using hj); rwa [show i + (j + 1) = i + 1 + j by omega] at this)
        (fun j z hj => by have := hy (j + 1) z (by simpa using hj); rwa [show i + (j + 1) = i + 1 + j by omega] at this)
      rwa [hcs] at this
theorem val_agg_get {l : List AV} {j : Nat} {x : AV} (h : l[j]? = some x) : (l.map (val ρ η)).toArray[j]? = some (val ρ η x) := by simp [h]
end
end Go.Proofs.YtddcgoopgnogeaaGreatDoor.Ev
namespace Go.Proofs.YtddcgoopgnogeaaGreatDoor.Ev
open Go.RowKit (Below)
set_option linter.unusedVariables false
section
variable {P : Program} {w : World} {η : Env} {ρ : Ren} {nx : Nat}
theorem vp_cases (x : AV) : (x.vp = .nil ∧ x = .nilp) ∨ (∃ i o, x.vp = .ptr i o ∧ x = .ptr i o) ∨ x.vp = .no := by
  cases h : x.vp with
  | no => exact .inr (.inr rfl)
  | nil => exact .inl ⟨rfl, vp_nil h⟩
  | ptr i o => exact .inr (.inl ⟨i, o, rfl, vp_ptr h⟩)
/-- No struct, no interface: the guard of a comparison lets it pass. -/
theorem run_guard (op : BinOp) (t : TypeId) (ox oy : Operand) {x y : Value} (hx : (∀ c, x ≠ .agg c) ∧ x ≠ .nilIface) : (eqGuard op t ox oy x y).run P w = .ok () w := by
  unfold eqGuard
  cases op <;> cases x <;> first | (exact absurd rfl hx.2) | (exact absurd rfl (hx.1 _)) | rfl | (cases y <;> rfl)
theorem run_eqP (d : Nat) {t e : TypeId} {z : Nat} (hu : P.underlying t = some (.pointer e)) (hs : szOf P e = some (z + 1)) {x y : AV} {b : Bool} (h : eqP x y = some b) :
    (Op.equalIn (d + 1) t (val ρ η x) (val ρ η y)).run P w = .ok b w ∧ ((∀ c, val ρ η x ≠ .agg c) ∧ val ρ η x ≠ .nilIface) := by
  unfold eqP at h
  rcases vp_cases x with ⟨h1, rfl⟩ | ⟨i, o, h1, rfl⟩ | h1
  · rcases vp_cases y with ⟨h2, rfl⟩ | ⟨j, q, h2, rfl⟩ | h2
    · simp only [h1] at h; injection h with h; subst h
      exact ⟨by simp [val, Op.equalIn, run_underlying hu], by simp [val], by simp [val]⟩
    · simp only [h1, h2] at h; injection h with h; subst h
      exact ⟨by simp [val, Op.equalIn, run_underlying hu], by simp [val], by simp [val]⟩
    · simp only [h1, h2] at h; cases h
  · rcases vp_cases y with ⟨h2, rfl⟩ | ⟨j, q, h2, rfl⟩ | h2
    · simp only [h1, h2] at h; injection h with h; subst h
      exact ⟨by simp [val, Op.equalIn, run_underlying hu], by simp [val], by simp [val]⟩
    · simp only [h1, h2] at h
      obtain ⟨h3, h4⟩ := brec_some h (by simp)
      injection h4 with h4
      have := Nat.eq_of_beq_eq_true h3
      subst this
      refine ⟨?_, by simp [val], by simp [val]⟩
      have he : (({ block := ρ.b i, off := ρ.d i + o, spot := none } : Addr) == { block := ρ.b i, off := ρ.d i + q, spot := none }) = b := by
        rw [← h4, beq_eq, show (({ block := ρ.b i, off := ρ.d i + o, spot := none } : Addr) == { block := ρ.b i, off := ρ.d i + q, spot := none }) = decide (({ block := ρ.b i, off := ρ.d i + o, spot := none } : Addr) = { block := ρ.b i, off := ρ.d i + q, spot := none }) from rfl, decide_eq_decide]
        constructor
        · intro e; injection e with _ e; omega
        · intro e; subst e; rfl
      simp [val, Op.equalIn, run_underlying hu, run_szOf hs, sameAddr, he]
    · simp only [h1, h2] at h; cases h
  · simp only [h1] at h; cases h
theorem vl_cases (x : AV) : (x.vl = .nil ∧ x = .nils) ∨ (∃ i o l c, x.vl = .sl i o l c ∧ x = .sl i o l c) ∨ (∃ i o l c, x.vl = .slo i o l c ∧ x = .slo i o l c) ∨ x.vl = .no := by
  cases h : x.vl with
  | no => exact .inr (.inr (.inr rfl))
  | nil => exact .inl ⟨rfl, vl_nil h⟩
  | sl i o l c => exact .inr (.inl ⟨i, o, l, c, rfl, vl_sl h⟩)
  | slo i o l c => exact .inr (.inr (.inl ⟨i, o, l, c, rfl, vl_slo h⟩))
theorem run_eqL (d : Nat) {t e : TypeId} (hu : P.underlying t = some (.slice e)) {x y : AV} {b : Bool} (h : eqL x y = some b) :
    (Op.equalIn (d + 1) t (val ρ η x) (val ρ η y)).run P w = .ok b w ∧ ((∀ c, val ρ η x ≠ .agg c) ∧ val ρ η x ≠ .nilIface) := by
  unfold eqL at h
  rcases vl_cases x with ⟨h1, rfl⟩ | ⟨i, o, l, c, h1, rfl⟩ | ⟨i, o, l, c, h1, rfl⟩ | h1 <;> simp only [h1] at h
  · rcases vl_cases y with ⟨h2, rfl⟩ | ⟨i, o, l, c, h2, rfl⟩ | ⟨i, o, l, c, h2, rfl⟩ | h2 <;> simp only [h2] at h <;> first | (cases h; done) | skip
    injection h with h; subst h
    exact ⟨by simp [val, Op.equalIn, run_underlying hu], by simp [val], by simp [val]⟩
  · rcases vl_cases y with ⟨h2, rfl⟩ | ⟨i, o, l, c, h2, rfl⟩ | ⟨i, o, l, c, h2, rfl⟩ | h2 <;> simp only [h2] at h <;> first | (cases h; done) | skip
    injection h with h; subst h
    exact ⟨by simp [val, Op.equalIn, run_underlying hu], by simp [val], by simp [val]⟩
  · rcases vl_cases y with ⟨h2, rfl⟩ | ⟨i, o, l, c, h2, rfl⟩ | ⟨i, o, l, c, h2, rfl⟩ | h2 <;> simp only [h2] at h <;> first | (cases h; done) | skip
    injection h with h; subst h
    exact ⟨by simp [val, Op.equalIn, run_underlying hu], by simp [val], by simp [val]⟩
  · cases h
theorem vm_cases (x : AV) : (x.vm = .nil ∧ x = .nilm) ∨ (∃ i, x.vm = .map i ∧ x = .map i) ∨ x.vm = .no := by
  cases h : x.vm with
  | no => exact .inr (.inr rfl)
  | nil => exact .inl ⟨rfl, vm_nil h⟩
  | map i => exact .inr (.inl ⟨i, rfl, vm_map h⟩)
theorem run_eqM (d : Nat) {t k e : TypeId} (hu : P.underlying t = some (.map k e)) {x y : AV} {b : Bool} (h : eqM x y = some b) :
    (Op.equalIn (d + 1) t (val ρ η x) (val ρ η y)).run P w = .ok b w ∧ ((∀ c, val ρ η x ≠ .agg c) ∧ val ρ η x ≠ .nilIface) := by
  unfold eqM at h
  rcases vm_cases x with ⟨h1, rfl⟩ | ⟨i, h1, rfl⟩ | h1 <;> simp only [h1] at h
  · rcases vm_cases y with ⟨h2, rfl⟩ | ⟨i, h2, rfl⟩ | h2 <;> simp only [h2] at h <;> first | (cases h; done) | skip
    injection h with h; subst h
    exact ⟨by simp [val, Op.equalIn, run_underlying hu], by simp [val], by simp [val]⟩
  · rcases vm_cases y with ⟨h2, rfl⟩ | ⟨i, h2, rfl⟩ | h2 <;> simp only [h2] at h <;> first | (cases h; done) | skip
    injection h with h; subst h
    exact ⟨by simp [val, Op.equalIn, run_underlying hu], by simp [val], by simp [val]⟩
  · cases h
theorem Wf.aggs {l : List AV} (h : Wf ρ nx (.agg l)) : (∀ x ∈ l, Wf ρ nx x) ∧ ∀ x ∈ l, x.leaf = true := by cases h with | agg h1 h2 => exact ⟨h1, h2⟩
theorem Wf.tups {l : List AV} (h : Wf ρ nx (.tup l)) : ∀ x ∈ l, Wf ρ nx x := by cases h; assumption
theorem run_eqAgg {t : TypeId} {ks : List LK} (hks : plainEq P t = some ks) {x y : AV} {b : Bool} (hx : Wf ρ nx x) (hy : Wf ρ nx y) (h : eqAgg ks x y = some b) :
    ∃ xs ys, val ρ η x = .agg xs ∧ val ρ η y = .agg ys ∧ (Op.equal t (.agg xs) (.agg ys)).run P w = .ok b w := by
  obtain ⟨l, h1, h2⟩ := oget_some h
  obtain ⟨m, h3, h4⟩ := oget_some h2
  obtain rfl := va_some h1
  obtain rfl := va_some h3
  refine ⟨(l.map (val ρ η)).toArray, (m.map (val ρ η)).toArray, by simp only [val, vals_eq], by simp only [val, vals_eq], ?_⟩
  show (Op.equalIn (9998 + 1 + 1) t _ _).run P w = _
  unfold plainEq at hks
  split at hks
  · rename_i fs hu
    split at hks
    · cases hks
    · rename_i hst
      have hf : P.fieldsOf t = fs := by simp [Program.fieldsOf, hu]
      rw [run_equalIn_struct w _ t _ _ (by rw [hf]; exact hu) (by simpa using hst), hf]
      exact run_eqFields 9998 fs.toList 0 ks l m _ _ b hks h4 hx.aggs.1 hy.aggs.1 (fun j x hj => by rw [Nat.zero_add]; exact val_agg_get hj) (fun j x hj => by rw [Nat.zero_add]; exact val_agg_get hj)
  · rename_i n e hu
    split at hks
    · rename_i hs
      cases hk : leafK P e with
      | none => rw [hk] at hks; cases hks
      | some k =>
        rw [hk] at hks
        simp at hks
        subst hks
        obtain ⟨i, hi, _⟩ := szOf_some hs
        rw [run_equalIn_array w _ _ _ hu hi, List.range_eq_range']
        exact run_eqItems 9998 hk hs n 0 l m _ _ b h4 hx.aggs.1 hy.aggs.1 (fun j x hj => by rw [Nat.zero_add]; exact val_agg_get hj) (fun j x hj => by rw [Nat.zero_add]; exact val_agg_get hj)
    · cases hks
  · cases hks
theorem binOp_eql_of {t : TypeId} {x y : Value} {b : Bool} (hx : (∀ k n, x ≠ .int k n) ∧ (∀ k n, x ≠ .float k n) ∧ (∀ k p q, x ≠ .complex k p q) ∧ ∀ s, x ≠ .string s) (h : (Op.equal t x y).run P w = .ok b w) :
    (binOp .eql t x y).run P w = .ok (.bool b) w ∧ (binOp .neq t x y).run P w = .ok (.bool !b) w := by
  have h1 : binOp .eql t x y = (do pure (.bool (← Op.equal t x y))) := by
    obtain ⟨a1, a2, a3, a4⟩ := hx
    cases x <;> first | (exact absurd rfl (a1 _ _)) | (exact absurd rfl (a2 _ _)) | (exact absurd rfl (a3 _ _ _)) | (exact absurd rfl (a4 _)) | (cases y <;> rfl)
  have h2 : binOp .neq t x y = (do pure (.bool (!(← Op.equal t x y)))) := by
    obtain ⟨a1, a2, a3, a4⟩ := hx
    cases x <;> first | (exact absurd rfl (a1 _ _)) | (exact absurd rfl (a2 _ _)) | (exact absurd rfl (a3 _ _ _)) | (exact absurd rfl (a4 _)) | (cases y <;> rfl)
  rw [h1, h2]
  simp [Sem.run_bind, h]
theorem Wf.notNum {x : AV} (h : (∃ c, val ρ η x = .agg c) ∨ (∃ p, val ρ η x = .bool p) ∨ (∃ p, val ρ η x = .pointer p) ∨ (∃ a l c, val ρ η x = .slice a l c) ∨ (∃ m, val ρ η x = .map m)) :
    (∀ k n, val ρ η x ≠ .int k n) ∧ (∀ k n, val ρ η x ≠ .float k n) ∧ (∀ k p q, val ρ η x ≠ .complex k p q) ∧ ∀ s, val ρ η x ≠ .string s := by
  rcases h with ⟨c, h⟩ | ⟨p, h⟩ | ⟨p, h⟩ | ⟨a, l, c, h⟩ | ⟨m, h⟩ <;> rw [h] <;> exact ⟨by simp, by simp, by simp, by simp⟩
theorem eqP_ptr {x y : AV} {b : Bool} (h : eqP x y = some b) : ∃ p, val ρ η x = .pointer p := by
  unfold eqP at h
  rcases vp_cases x with ⟨h1, rfl⟩ | ⟨i, o, h1, rfl⟩ | h1
  · exact ⟨none, rfl⟩
  · exact ⟨_, rfl⟩
  · rw [h1] at h; cases h
theorem eqL_sl {x y : AV} {b : Bool} (h : eqL x y = some b) : ∃ a l c, val ρ η x = .slice a l c := by
  unfold eqL at h
  rcases vl_cases x with ⟨h1, rfl⟩ | ⟨i, o, l, c, h1, rfl⟩ | ⟨i, o, l, c, h1, rfl⟩ | h1
  · exact ⟨_, _, _, rfl⟩
  · exact ⟨_, _, _, rfl⟩
  · exact ⟨_, _, _, rfl⟩
  · rw [h1] at h; cases h
theorem eqM_map {x y : AV} {b : Bool} (h : eqM x y = some b) : ∃ m, val ρ η x = .map m := by
  unfold eqM at h
  rcases vm_cases x with ⟨h1, rfl⟩ | ⟨i, h1, rfl⟩ | h1
  · exact ⟨_, rfl⟩
  · exact ⟨_, rfl⟩
  · rw [h1] at h; cases h
/-- What the comparison of two values yields. -/
theorem run_eqAny {t : TypeId} {f : AV → AV → Option Bool} (hf : eqAny P t = some f) {x y : AV} {b : Bool} (hx : Wf ρ nx x) (hy : Wf ρ nx y) (h : f x y = some b) (op : BinOp) (ox oy : Operand) :
    (Op.equal t (val ρ η x) (val ρ η y)).run P w = .ok b w ∧ (eqGuard op t ox oy (val ρ η x) (val ρ η y)).run P w = .ok () w ∧
      ((∀ k n, val ρ η x ≠ .int k n) ∧ (∀ k n, val ρ η x ≠ .float k n) ∧ (∀ k p q, val ρ η x ≠ .complex k p q) ∧ ∀ s, val ρ η x ≠ .string s) := by
  have agg : ∀ ks, plainEq P t = some ks → P.eqGuardType P.depth t = false → eqAgg ks x y = some b →
      (Op.equal t (val ρ η x) (val ρ η y)).run P w = .ok b w ∧ (eqGuard op t ox oy (val ρ η x) (val ρ η y)).run P w = .ok () w ∧
      ((∀ k n, val ρ η x ≠ .int k n) ∧ (∀ k n, val ρ η x ≠ .float k n) ∧ (∀ k p q, val ρ η x ≠ .complex k p q) ∧ ∀ s, val ρ η x ≠ .string s) := by
    intro ks h1 h2 h3
    obtain ⟨xs, ys, g1, g2, g3⟩ := run_eqAgg (P := P) (w := w) (η := η) h1 hx hy h3
    exact ⟨by rw [g1, g2]; exact g3, by rw [g1, g2]; exact run_eqGuard_agg w op t ox oy _ _ h2, Wf.notNum (.inl ⟨_, g1⟩)⟩
  unfold eqAny at hf
  split at hf
  · split at hf
    · rename_i ks hks hg
      injection hf with hf
      subst hf
      exact agg ks hks hg h
    · cases hf
  · split at hf
    · rename_i ks hks hg
      injection hf with hf
      subst hf
      exact agg ks hks hg h
    · cases hf
  · rename_i e hu
    split at hf
    · rename_i z hs
      injection hf with hf
      subst hf
      obtain ⟨h1, h2⟩ := run_eqP (ρ := ρ) (η := η) (w := w) 9999 hu hs h
      exact ⟨h1, run_guard op t ox oy h2, Wf.notNum (.inr (.inr (.inl (eqP_ptr h))))⟩
    · cases hf
  · rename_i hu
    injection hf with hf
    subst hf
    obtain ⟨p, q, rfl, rfl, rfl⟩ := eqB_some h
    exact ⟨run_equalIn_bool' w 9999 t p q hu, run_guard op t ox oy ⟨by simp [val], by simp [val]⟩, Wf.notNum (.inr (.inl ⟨p, rfl⟩))⟩
  · rename_i e hu
    injection hf with hf
    subst hf
    obtain ⟨h1, h2⟩ := run_eqL (ρ := ρ) (η := η) (w := w) 9999 hu h
    exact ⟨h1, run_guard op t ox oy h2, Wf.notNum (.inr (.inr (.inr (.inl (eqL_sl h)))))⟩
  · rename_i k e hu
    injection hf with hf
    subst hf
    obtain ⟨h1, h2⟩ := run_eqM (ρ := ρ) (η := η) (w := w) 9999 hu h
    exact ⟨h1, run_guard op t ox oy h2, Wf.notNum (.inr (.inr (.inr (.inr (eqM_map h)))))⟩
  · cases hf
/-- What an operation on two operands yields. -/
theorem run_binC {op : BinOp} {t : TypeId} {f : AV → AV → Option AV} (hf : binC P op t = some f) {x y r : AV} (hx : Wf ρ nx x) (hy : Wf ρ nx y) (h : f x y = some r) (ox oy : Operand) :
    (do eqGuard op t ox oy (val ρ η x) (val ρ η y); binOp op t (val ρ η x) (val ρ η y) : Sem Value).run P w = .ok (val ρ η r) w ∧ Wf ρ nx r := by
  rw [Sem.run_bind]
  unfold binC at hf
  split at hf
  · rename_i k hu
    cases hk : kC k with
    | none => rw [hk] at hf; cases hf
    | some K =>
      rw [hk] at hf
      injection hf with hf
      subst hf
      obtain ⟨h1, h2⟩ := binOp_int (P := P) (w := w) (η := η) (t := t) (kOk hk) hx hy h
      have hg : (∀ c, val ρ η x ≠ .agg c) ∧ val ρ η x ≠ .nilIface := by
        have hxk : ∃ a, K.v x = some a := by
          cases op <;> first | exact (intOp_some h).imp fun a ⟨_, g, _⟩ => g | exact (intOp?_some h).imp fun a ⟨_, g, _⟩ => g | exact (shOp_some h).imp fun a ⟨_, g, _⟩ => g
        obtain ⟨a, ha⟩ := hxk
        obtain rfl := (kOk hk).view _ _ ha
        rw [(kOk hk).valof _ _ _ (((kOk hk).wf _ _ _).1 hx)]
        exact ⟨by simp, by simp⟩
      rw [run_guard op t ox oy hg]
      exact ⟨h1, h2⟩
  · rename_i hu
    obtain ⟨h1, h2⟩ := binOp_str (P := P) (w := w) (η := η) (t := t) hf hx hy h
    have hg : (∀ c, val ρ η x ≠ .agg c) ∧ val ρ η x ≠ .nilIface := by
      have hxk : ∃ l n, x = .str l n := by
        cases op <;> first | (cases hf; done) | skip
        all_goals (injection hf with hf; subst hf)
        all_goals first | exact (strOp_some h).imp fun l ⟨n, _, _, g, _⟩ => ⟨n, g⟩ | exact (strOp?_some h).imp fun l ⟨n, _, _, g, _⟩ => ⟨n, g⟩
      obtain ⟨l, n, rfl⟩ := hxk
      exact ⟨by simp [val], by simp [val]⟩
    rw [run_guard op t ox oy hg]
    exact ⟨h1, h2⟩
  · split at hf
    · cases he : eqAny P t with
      | none => rw [he] at hf; cases hf
      | some g =>
        rw [he] at hf
        injection hf with hf
        subst hf
        obtain ⟨b, h1, h2⟩ := oget_some h
        injection h2 with h2
        subst h2
        obtain ⟨g1, g2, g3⟩ := run_eqAny (P := P) (w := w) (η := η) he hx hy h1 .eql ox oy
        rw [g2]
        exact ⟨(binOp_eql_of g3 g1).1, .bool _⟩
    · cases he : eqAny P t with
      | none => rw [he] at hf; cases hf
      | some g =>
        rw [he] at hf
        injection hf with hf
        subst hf
        obtain ⟨b, h1, h2⟩ := oget_some h
        injection h2 with h2
        subst h2
        obtain ⟨g1, g2, g3⟩ := run_eqAny (P := P) (w := w) (η := η) he hx hy h1 .neq ox oy
        rw [g2]
        rw [show (val ρ η (.bool (not' b))) = .bool (!b) by simp [val, not'_eq]]
        exact ⟨(binOp_eql_of g3 g1).2, .bool _⟩
    · cases hf
end
end Go.Proofs.YtddcgoopgnogeaaGreatDoor.Ev
namespace Go.Proofs.YtddcgoopgnogeaaGreatDoor.Ev
open Go.RowKit (Below)
set_option linter.unusedVariables false
theorem add_mk (b o n : Nat) : (⟨b, o, none⟩ : Addr).add n = ⟨b, o + n, none⟩ := by unfold Addr.add; split <;> simp_all
section
variable {P : Program} {w : World} {η : Env} {ρ : Ren} {nx : Nat} {L : Loc} {a : Act}
/-- An operation that looks at no memory yields what the evaluator tells. -/
def PurOk (P : Program) (o : Oper) (f : Loc → Option AV) : Prop :=
  ∀ (η : Env) (ρ : Ren) (nx : Nat) (L : Loc) (a : Act) (v : AV), Leaves η → LocOk η ρ nx L a → f L = some v → ∃ u, (∀ w, (execOp a.eval o).run P w = .ok (.value u) w) ∧ Tells η ρ nx v u
def TotOk (P : Program) (o : Oper) (f : Loc → AV) : Prop :=
  ∀ (η : Env) (ρ : Ren) (nx : Nat) (L : Loc) (a : Act), LocOk η ρ nx L a → ∃ u, (∀ w, (execOp a.eval o).run P w = .ok (.value u) w) ∧ Tells η ρ nx (f L) u
theorem Tells.val {x : AV} (h : Wf ρ nx x) : Tells η ρ nx x (val ρ η x) := .inr ⟨h, rfl⟩
theorem run_v {s : Sem Value} {u : Value} (h : s.run P w = .ok u w) : (do pure (.value (← s)) : Sem Next).run P w = .ok (.value u) w := by
  simp [h]
/-- A pointer that is told. -/
theorem tells_ptr {x : AV} {v : Value} {i o : Nat} (h : Tells η ρ nx x v) (hx : x.vp = .ptr i o) : v = .pointer (some ⟨ρ.b i, ρ.d i + o, none⟩) ∧ i < nx := by
  obtain rfl := vp_ptr hx
  obtain ⟨h1, h2⟩ := h.of (by simp)
  cases h1 with
  | ptr h3 => exact ⟨h2, h3⟩
theorem vprec_some {α : Type} {x : VP} {f : Nat → Nat → Option α} {r : α} (h : (VP.rec none none f x : Option α) = some r) : ∃ i o, x = .ptr i o ∧ f i o = some r := by
  cases x with
  | no => cases h
  | nil => cases h
  | ptr i o => exact ⟨i, o, rfl, h⟩
theorem vsrec_some {α : Type} {x : VS} {f : Nat → Nat → Option α} {r : α} (h : (VS.rec none f x : Option α) = some r) : ∃ l n, x = .str l n ∧ f l n = some r := by
  cases x with
  | no => cases h
  | str l n => exact ⟨l, n, rfl, h⟩
theorem tells_str {x : AV} {v : Value} {l n : Nat} (h : Tells η ρ nx x v) (hx : x.vs = .str l n) : v = .string ⟨(bytesOf l n).toArray⟩ ∧ n < 2 ^ (8 * l) := by
  obtain rfl := vs_str hx
  obtain ⟨h1, h2⟩ := h.of (by simp)
  exact ⟨by rw [h2]; rfl, h1.str_lt⟩
theorem tells_idx {x : AV} {v : Value} {n : Nat} (h : Tells η ρ nx x v) (hx : x.vx = some n) : ∃ k, v = .int k (n : Int) := by
  obtain ⟨k, hk⟩ := vx_val ρ η hx
  have : x ≠ .any := by rintro rfl; cases hx
  exact ⟨k, by rw [(h.of this).2, hk]⟩
theorem tells_bool {x : AV} {v : Value} {b : Bool} (h : Tells η ρ nx x v) (hx : x.vb = some b) : v = .bool b := by
  obtain rfl := vb_some hx
  exact (h.of (by simp)).2
/-! One by one. -/
theorem pick_ok {o : Oper} {c x y : Operand} (ho : o.op = .pick c x y) : PurOk P o fun L => Option.rec none (fun t => Bool.rec (some ((gOf y).g L)) (some ((gOf x).g L)) t) ((gOf c).g L).vb := by
  intro η ρ nx L a v hη hL h
  obtain ⟨t, h1, h2⟩ := oget_some h
  have hc := tells_bool (gOf_sound hL c) h1
  cases t with
  | true =>
    injection h2 with h2
    exact ⟨a.eval x, fun w => by simp [execOp, ho, hc, asBool], h2 ▸ gOf_sound hL x⟩
  | false =>
    injection h2 with h2
    exact ⟨a.eval y, fun w => by simp [execOp, ho, hc, asBool], h2 ▸ gOf_sound hL y⟩
theorem move_ok {o : Oper} {x : Operand} (ho : o.op = .move x ∨ o.op = .assign x) : TotOk P o fun L => (gOf x).g L := by
  intro η ρ nx L a hL
  exact ⟨a.eval x, fun w => by rcases ho with ho | ho <;> simp [execOp, ho], gOf_sound hL x⟩
theorem tells_fn {x : AV} {v : Value} {f : Nat} {c : List AV} (h : Tells η ρ nx x v) (hx : x.vf = .fn f c) : v = .func (.func f) #[] (c.map (val ρ η)).toArray ∧ ∀ y ∈ c, Wf ρ nx y := by
  obtain rfl := vf_fn hx
  obtain ⟨h1, h2⟩ := h.of (by simp)
  cases h1 with
  | fn h3 => exact ⟨by rw [h2]; simp [val, vals_eq], h3⟩
theorem nilCheck_ok {o : Oper} {x : Operand} (ho : o.op = .nilCheck x) :
    PurOk P o fun L => VP.rec (VF.rec none (fun f c => some (.fn f c)) ((gOf x).g L).vf) none (fun i o => some (.ptr i o)) ((gOf x).g L).vp := by
  intro η ρ nx L a v hη hL h
  have hx := gOf_sound hL x
  cases h1 : ((gOf x).g L).vp with
  | nil => simp only [h1] at h; cases h
  | ptr i q =>
    simp only [h1] at h
    injection h with h
    subst h
    obtain ⟨h3, h4⟩ := tells_ptr hx h1
    exact ⟨_, fun w => by simp [execOp, ho, h3, val], Tells.val (.ptr h4)⟩
  | no =>
    simp only [h1] at h
    cases h2 : ((gOf x).g L).vf with
    | no => rw [h2] at h; cases h
    | fn f c =>
      rw [h2] at h
      injection h with h
      subst h
      obtain ⟨h3, h4⟩ := tells_fn hx h2
      exact ⟨_, fun w => by simp [execOp, ho, h3, val, vals_eq], Tells.val (.fn h4)⟩
theorem fieldAddr_ok {o : Oper} {s : TypeId} {x : Operand} {f : Nat} {fs : Array Field} {fd : Field} {z : Nat} (ho : o.op = .fieldAddr s x f) (hu : P.underlying s = some (.struct fs)) (hf : fs[f]? = some fd)
    (hz : szOf P fd.type = some (z + 1)) : PurOk P o fun L => VP.rec none none (fun id off => some (.ptr id (Nat.add off fd.offset))) ((gOf x).g L).vp := by
  intro η ρ nx L a v hη hL h
  obtain ⟨i, q, h1, h2⟩ := vprec_some h
  injection h2 with h2
  subst h2
  obtain ⟨h3, h4⟩ := tells_ptr (gOf_sound hL x) h1
  refine ⟨_, fun w => ?_, Tells.val (.ptr h4)⟩
  simp only [execOp, ho]
  apply run_v
  simp [Instr.fieldAt, run_underlying hu, hf, h3, Instr.sureAddr, fieldPlace, run_szOf hz, add_mk, val, Nat.add_assoc]
theorem indexAddr_arr {o : Oper} {t e : TypeId} {x i : Operand} {n z : Nat} (ho : o.op = .indexAddr t x i) (hu : P.underlying t = some (.array n e)) (hz : szOf P e = some z) :
    PurOk P o fun L => VP.rec none none (fun id off => Option.rec none (fun k => Bool.rec none (some (.ptr id (Nat.add off (Nat.mul k z)))) (Nat.ble (Nat.succ k) n)) ((gOf i).g L).vx) ((gOf x).g L).vp := by
  intro η ρ nx L a v hη hL h
  obtain ⟨id, q, h1, h2⟩ := vprec_some h
  obtain ⟨k, h3, h4⟩ := oget_some h2
  obtain ⟨h5, h6⟩ := brec_some h4 (by simp)
  injection h6 with h6
  subst h6
  obtain ⟨h7, h8⟩ := tells_ptr (gOf_sound hL x) h1
  obtain ⟨kk, h9⟩ := tells_idx (gOf_sound hL i) h3
  have hk : k < n := Nat.le_of_ble_eq_true h5
  refine ⟨_, fun w => ?_, Tells.val (.ptr h8)⟩
  simp only [execOp, ho]
  apply run_v
  have hk' : (0 : Int) ≤ (k : Int) ∧ (k : Int) < (n : Int) := by omega
  simp [Instr.indexAt, run_underlying hu, h7, h9, asIntOf, Instr.sureAddr, hk, run_szOf hz, add_mk, val, Nat.add_assoc]
theorem indexAddr_sl {o : Oper} {t e : TypeId} {x i : Operand} {z : Nat} (ho : o.op = .indexAddr t x i) (hu : P.underlying t = some (.slice e)) (hz : szOf P e = some z) :
    PurOk P o fun L => Option.rec none (fun k => VL.rec none none
        (fun id off l _ => Bool.rec none (some (.ptr id (Nat.add off (Nat.mul k z)))) (Nat.ble (Nat.succ k) l))
        (fun id eo l es => Bool.rec none (Bool.rec none (some (.ptr id (Nat.mul (Nat.add eo k) es))) (Nat.beq es z)) (Nat.ble (Nat.succ k) l)) ((gOf x).g L).vl) ((gOf i).g L).vx := by
  intro η ρ nx L a v hη hL h
  obtain ⟨k, h1, h2⟩ := oget_some h
  obtain ⟨kk, h9⟩ := tells_idx (gOf_sound hL i) h1
  have hx := gOf_sound hL x
  rcases vl_cases ((gOf x).g L) with ⟨h3, _⟩ | ⟨id, off, l, c, h3, h4⟩ | ⟨id, eo, l, es, h3, h4⟩ | h3 <;> simp only [h3] at h2
  · cases h2
  · obtain ⟨h5, h6⟩ := brec_some h2 (by simp)
    injection h6 with h6
    subst h6
    obtain ⟨g1, g2⟩ := hx.of (by rw [h4]; simp)
    rw [h4] at g1 g2
    have hk : k < l := Nat.le_of_ble_eq_true h5
    have hk' : (0 : Int) ≤ (k : Int) ∧ (k : Int) < (l : Int) := by omega
    cases g1 with
    | sl hid hl =>
      refine ⟨_, fun w => ?_, Tells.val (.ptr hid)⟩
      simp only [execOp, ho]
      apply run_v
      simp [Instr.indexAt, run_underlying hu, g2, h9, asIntOf, hk, run_szOf hz, add_mk, val, Nat.add_assoc]
  · obtain ⟨h5, h6⟩ := brec_some h2 (by simp)
    obtain ⟨h7, h8⟩ := brec_some h6 (by simp)
    injection h8 with h8
    subst h8
    have hes := Nat.eq_of_beq_eq_true h7
    subst hes
    obtain ⟨g1, g2⟩ := hx.of (by rw [h4]; simp)
    rw [h4] at g1 g2
    have hk : k < l := Nat.le_of_ble_eq_true h5
    cases g1 with
    | slo hid hl =>
      refine ⟨_, fun w => ?_, Tells.val (.ptr hid)⟩
      simp only [execOp, ho]
      apply run_v
      simp [Instr.indexAt, run_underlying hu, g2, h9, asIntOf, hk, run_szOf hz, add_mk, val, Nat.add_assoc, Nat.add_mul]
  · cases h2
theorem tells_agg {x : AV} {v : Value} {l : List AV} (h : Tells η ρ nx x v) (hx : x.va = some l) : v = .agg (l.map (val ρ η)).toArray ∧ (∀ y ∈ l, Wf ρ nx y) ∧ ∀ y ∈ l, y.leaf = true := by
  obtain rfl := va_some hx
  obtain ⟨h1, h2⟩ := h.of (by simp)
  exact ⟨by rw [h2]; simp [val, vals_eq], h1.aggs⟩
theorem partOf_ok {t : TypeId} {g : Bool} {n off : Nat} {l : List AV} {v : AV} (hg : aggOf P t = some g) (hz : szOf P t = some n) (h : partOf g n off l = some v) (hw : ∀ y ∈ l, Wf ρ nx y) (hl : ∀ y ∈ l, y.leaf = true) :
    (∀ w, (part t (l.map (val ρ η)).toArray off).run P w = .ok (val ρ η v) w) ∧ Wf ρ nx v := by
  cases g with
  | false =>
    have h' : at' l off = some v := h
    rw [at'_eq] at h'
    exact ⟨fun w => run_part_leaf hg (val_agg_get h'), hw v (List.mem_of_getElem? h')⟩
  | true =>
    have h' : (Bool.rec none (some (.agg (take' n (drop' off l)))) (Nat.ble (Nat.add off n) (len l)) : Option AV) = some v := h
    obtain ⟨h1, h2⟩ := brec_some h' (by simp)
    injection h2 with h2
    subst h2
    rw [take'_eq, drop'_eq]
    refine ⟨fun w => ?_, .agg (fun y hy => hw y (List.mem_of_mem_drop (List.mem_of_mem_take hy))) (fun y hy => hl y (List.mem_of_mem_drop (List.mem_of_mem_take hy)))⟩
    simp [part, run_isAgg hg, run_szOf hz, val, vals_eq, List.extract_eq_take_drop, List.map_take, List.map_drop]
theorem field_ok {o : Oper} {s : TypeId} {x : Operand} {f n : Nat} {g : Bool} {fs : Array Field} {fd : Field} (ho : o.op = .field s x f) (hu : P.underlying s = some (.struct fs)) (hf : fs[f]? = some fd)
    (hg : aggOf P fd.type = some g) (hz : szOf P fd.type = some n) : PurOk P o fun L => Option.rec none (fun l => partOf g n fd.offset l) ((gOf x).g L).va := by
  intro η ρ nx L a v hη hL h
  obtain ⟨l, h1, h2⟩ := oget_some h
  obtain ⟨h3, h4, h5⟩ := tells_agg (gOf_sound hL x) h1
  obtain ⟨h6, h7⟩ := partOf_ok (P := P) (η := η) hg hz h2 h4 h5
  refine ⟨_, fun w => ?_, Tells.val h7⟩
  simp only [execOp, ho]
  apply run_v
  simp [Instr.field, run_underlying hu, hf, h3, asAgg, h6]
theorem index_arr {o : Oper} {t e : TypeId} {x i : Operand} {n z : Nat} {g : Bool} (ho : o.op = .index t x i) (hu : P.underlying t = some (.array n e)) (hg : aggOf P e = some g) (hz : szOf P e = some z) :
    PurOk P o fun L => Option.rec none (fun l => Option.rec none (fun k => Bool.rec none (partOf g z (Nat.mul k z) l) (Nat.ble (Nat.succ k) n)) ((gOf i).g L).vx) ((gOf x).g L).va := by
  intro η ρ nx L a v hη hL h
  obtain ⟨l, h1, h2⟩ := oget_some h
  obtain ⟨k, h3, h4⟩ := oget_some h2
  obtain ⟨h5, h6⟩ := brec_some h4 (by simp)
  obtain ⟨g1, g2, g3⟩ := tells_agg (gOf_sound hL x) h1
  obtain ⟨kk, g4⟩ := tells_idx (gOf_sound hL i) h3
  obtain ⟨g5, g6⟩ := partOf_ok (P := P) (η := η) hg hz h6 g2 g3
  have g5' : ∀ w, (part e (l.map (val ρ η)).toArray (k * z)).run P w = .ok (val ρ η v) w := g5
  have hk : k < n := Nat.le_of_ble_eq_true h5
  refine ⟨_, fun w => ?_, Tells.val g6⟩
  simp only [execOp, ho]
  apply run_v
  simp [Instr.index, run_underlying hu, g1, g4, asIntOf, hk, run_szOf hz, g5']
theorem index_str {o : Oper} {t : TypeId} {x i : Operand} (ho : o.op = .index t x i) (hu : P.underlying t = some .string) :
    PurOk P o fun L => VS.rec none (fun l n => Option.rec none (fun k => Bool.rec none (some (.u8 (Nat.land (Nat.shiftRight n (Nat.mul 8 (Nat.sub (Nat.sub l 1) k))) 255))) (Nat.ble (Nat.succ k) l)) ((gOf i).g L).vx) ((gOf x).g L).vs := by
  intro η ρ nx L a v hη hL h
  obtain ⟨l, n, h1, h2⟩ := vsrec_some h
  obtain ⟨k, h3, h4⟩ := oget_some h2
  obtain ⟨h5, h6⟩ := brec_some h4 (by simp)
  injection h6 with h6
  subst h6
  obtain ⟨g1, g2⟩ := tells_str (gOf_sound hL x) h1
  obtain ⟨kk, g4⟩ := tells_idx (gOf_sound hL i) h3
  have hk : k < l := Nat.le_of_ble_eq_true h5
  have hb : (n >>> (8 * (l - 1 - k))) &&& 255 = (n >>> (8 * (l - 1 - k))) % 256 := Nat.and_two_pow_sub_one_eq_mod _ 8
  refine ⟨_, fun w => ?_, Tells.val (.u8 (show (n >>> (8 * (l - 1 - k))) &&& 255 < 256 by rw [hb]; exact Nat.mod_lt _ (by decide)))⟩
  simp only [execOp, ho]
  apply run_v
  rw [g1, g4, run_index_string w t _ kk _ hu, dif_pos (by rw [size_bytes]; omega)]
  have he : (bytesOf l n)[k]? = some (byteAt l n k) := by rw [bytesOf_getElem?, if_pos hk]
  have he' : (⟨(bytesOf l n).toArray⟩ : ByteArray)[((k : Nat) : Int).toNat]'(by rw [size_bytes]; omega) = byteAt l n k := by
    have : (bytesOf l n)[k]'(by simp; exact hk) = byteAt l n k := by
      have := List.getElem?_eq_getElem (l := bytesOf l n) (i := k) (by simp; exact hk)
      rw [he] at this
      exact (Option.some.inj this).symm
    rw [← this]
    rfl
  rw [he']
  show Result.ok (Value.int .u8 ((byteAt l n k).toNat : Int)) w = Result.ok (Value.int .u8 (((n >>> (8 * (l - 1 - k))) &&& 255 : Nat) : Int)) w
  rw [hb]
  unfold byteAt
  rw [UInt8.toNat_ofNat']
theorem extract_ok {o : Oper} {x : Operand} {i : Nat} (ho : o.op = .extract x i) : PurOk P o fun L => Option.rec none (fun l => at' l i) ((gOf x).g L).vt := by
  intro η ρ nx L a v hη hL h
  obtain ⟨l, h1, h2⟩ := oget_some h
  rw [at'_eq] at h2
  obtain h3 := vt_some h1
  obtain ⟨g1, g2⟩ := (gOf_sound hL x).of (by rw [h3]; simp)
  rw [h3] at g1 g2
  refine ⟨_, fun w => ?_, Tells.val (g1.tups v (List.mem_of_getElem? h2))⟩
  simp only [execOp, ho]
  apply run_v
  rw [g2]
  simp [Instr.extract, val, vals_eq, h2]
theorem makeInterface_ok {o : Oper} {t : TypeId} {x : Operand} (ho : o.op = .makeInterface t x) (hu : ∃ d, P.underlying t = some d ∧ ∀ ms, d ≠ .interface ms) :
    PurOk P o fun L => Bool.rec none (some (.ifc t ((gOf x).g L))) ((gOf x).g L).ok := by
  intro η ρ nx L a v hη hL h
  obtain ⟨h1, h2⟩ := brec_some h (by simp)
  injection h2 with h2
  subst h2
  obtain ⟨g1, g2⟩ := (gOf_sound hL x).ok h1
  obtain ⟨d, hd, hn⟩ := hu
  refine ⟨_, fun w => ?_, Tells.val (.ifc g1)⟩
  simp only [execOp, ho]
  apply run_v
  cases d <;> first | (exact absurd rfl (hn _)) | simp [Instr.makeInterface, run_underlying hd, g2, val]
theorem makeFunc_ok {o : Oper} {f : Nat} {c : Array Operand} (ho : o.op = .makeFunc (.func f) #[] c) :
    PurOk P o fun L => Bool.rec none (some (.fn f (gets (c.toList.map gOf) L))) (oks (gets (c.toList.map gOf) L)) := by
  intro η ρ nx L a v hη hL h
  obtain ⟨h1, h2⟩ := brec_some h (by simp)
  injection h2 with h2
  subst h2
  rw [gets_eq, List.map_map] at *
  have h3 := (oks_iff _).1 h1
  have h4 : ∀ x ∈ c.toList, Wf ρ nx ((gOf x).g L) ∧ a.eval x = val ρ η ((gOf x).g L) := fun x hx => (gOf_sound hL x).ok (h3 _ (List.mem_map.2 ⟨x, hx, rfl⟩))
  refine ⟨_, fun w => ?_, Tells.val (.fn fun y hy => ?_)⟩
  · simp only [execOp, ho]
    apply run_v
    have he : c.map a.eval = (c.toList.map (val ρ η ∘ (fun x => x.g L) ∘ gOf)).toArray := by
      apply Array.ext'
      simp only [Array.toList_map]
      exact List.map_congr_left fun x hx => (h4 x hx).2
    simp [Instr.makeFunc, val, vals_eq, List.map_map, he]
  · obtain ⟨x, hx, rfl⟩ := List.mem_map.1 hy
    exact (h4 x hx).1
theorem binOp_ok {o : Oper} {op : BinOp} {t t' : TypeId} {x y : Operand} {f : AV → AV → Option AV} (ho : o.op = .binOp op t x y t') (hf : binC P op t = some f)
    (hok : ∀ u v r, f u v = some r → u ≠ .any ∧ v ≠ .any) : PurOk P o fun L => f ((gOf x).g L) ((gOf y).g L) := by
  intro η ρ nx L a v hη hL h
  obtain ⟨n1, n2⟩ := hok _ _ _ h
  obtain ⟨g1, g2⟩ := (gOf_sound hL x).of n1
  obtain ⟨g3, g4⟩ := (gOf_sound hL y).of n2
  have hr := fun w => run_binC (P := P) (w := w) (η := η) hf g1 g3 h x y
  refine ⟨_, fun w => ?_, Tells.val (hr default).2⟩
  simp only [execOp, ho]
  apply run_v
  rw [g2, g4]
  exact (hr w).1
end
end Go.Proofs.YtddcgoopgnogeaaGreatDoor.Ev
namespace Go.Proofs.YtddcgoopgnogeaaGreatDoor.Ev
open Go.RowKit (Below)
set_option linter.unusedVariables false
section
variable {P : Program} {w : World} {η : Env} {ρ : Ren} {nx : Nat} {L : Loc} {a : Act}
/-! Bounds. -/
/-- A bound that may be left out, and the value that stands there. -/
def BndOk (v : Option Value) (n d : Nat) : Prop := match v with | none => n = d | some v => ∃ k, v = .int k (n : Int)
theorem bnd_ok (hL : LocOk η ρ nx L a) {x : Option Operand} {d n : Nat} (h : bnd (x.map gOf) L d = some n) : BndOk (x.map a.eval) n d := by
  cases x with
  | none => injection h with h; exact h.symm
  | some x =>
    have h' : ((gOf x).g L).vx = some n := h
    exact tells_idx (gOf_sound hL x) h'
theorem run_bound {v : Value} {k : IntKind} {n y : Nat} {code : BoundsCode} (hv : v = .int k (n : Int)) (h : n ≤ y) : (Instr.sliceBound v y code).run P w = .ok n w := by
  subst hv
  have : (0 : Int) ≤ (n : Int) ∧ (n : Int) ≤ (y : Int) := by omega
  simp [Instr.sliceBound, asIntOf, h]
theorem run_bounds {isSl : Bool} {len cap l h m : Nat} {lo hi mx : Option Value} (h1 : BndOk lo l 0) (h2 : BndOk hi h len) (h3 : BndOk mx m cap) (h4 : hi = none → mx = none)
    (hl : l ≤ h) (hh : h ≤ m) (hm : m ≤ cap) : (Instr.sliceBounds isSl len cap lo hi mx).run P w = .ok (l, h, m) w := by
  unfold Instr.sliceBounds
  cases mx with
  | none =>
    obtain rfl : m = cap := h3
    cases hi with
    | none =>
      obtain rfl : h = len := h2
      cases lo with
      | none => obtain rfl : l = 0 := h1; simp
      | some v => obtain ⟨k, hv⟩ := h1; simp [run_bound hv hl]
    | some u =>
      obtain ⟨k', hu⟩ := h2
      cases lo with
      | none => obtain rfl : l = 0 := h1; simp [run_bound hu hh]
      | some v => obtain ⟨k, hv⟩ := h1; simp [run_bound hu hh, run_bound hv hl]
  | some x =>
    obtain ⟨k'', hx⟩ := h3
    cases hi with
    | none => exact absurd (h4 rfl) (by simp)
    | some u =>
      obtain ⟨k', hu⟩ := h2
      cases lo with
      | none => obtain rfl : l = 0 := h1; simp [run_bound hu hh, run_bound hx hm]
      | some v => obtain ⟨k, hv⟩ := h1; simp [run_bound hu hh, run_bound hv hl, run_bound hx hm]
theorem bounds_iff {a b m : Nat} (h : bounds a b m = true) : a ≤ b ∧ b ≤ m := by
  unfold bounds at h
  rw [and'_eq, Bool.and_eq_true] at h
  exact ⟨Nat.le_of_ble_eq_true h.1, Nat.le_of_ble_eq_true h.2⟩
theorem extract_bytes {l n a b : Nat} (hab : a ≤ b) (hb : b ≤ l) : (⟨(bytesOf l n).toArray⟩ : ByteArray).extract a b = ⟨(bytesOf (b - a) ((n >>> (8 * (l - b))) % 2 ^ (8 * (b - a)))).toArray⟩ := by
  apply ByteArray.ext
  rw [ByteArray.data_extract, ← bytesOf_extract hab hb]
  simp
theorem slice_str {o : Oper} {t : TypeId} {x : Operand} {lo hi : Option Operand} (ho : o.op = .slice t x lo hi none) (hu : P.underlying t = some .string) :
    PurOk P o fun L => VS.rec none (fun l n => Option.rec none (fun a => Option.rec none (fun b => Bool.rec none
        (some (.str (Nat.sub b a) (Nat.mod (Nat.shiftRight n (Nat.mul 8 (Nat.sub l b))) (Nat.pow 2 (Nat.mul 8 (Nat.sub b a)))))) (bounds a b l)) (bnd (hi.map gOf) L l)) (bnd (lo.map gOf) L 0)) ((gOf x).g L).vs := by
  intro η ρ nx L a v hη hL h
  obtain ⟨l, n, h1, h2⟩ := vsrec_some h
  obtain ⟨p, h3, h4⟩ := oget_some h2
  obtain ⟨q, h5, h6⟩ := oget_some h4
  obtain ⟨h7, h8⟩ := brec_some h6 (by simp)
  injection h8 with h8
  subst h8
  obtain ⟨b1, b2⟩ := bounds_iff h7
  obtain ⟨g1, g2⟩ := tells_str (gOf_sound hL x) h1
  have hb := fun w => run_bounds (P := P) (w := w) (isSl := false) (len := l) (cap := l) (bnd_ok hL h3) (bnd_ok hL h5) (mx := none) (m := l) rfl (fun _ => rfl) b1 b2 (Nat.le_refl _)
  refine ⟨_, fun w => ?_, Tells.val (.str (Nat.mod_lt _ (Nat.two_pow_pos _)))⟩
  simp only [execOp, ho]
  apply run_v
  rw [g1]
  simp only [Instr.sliceAt, Instr.slice, Sem.run_bind, run_underlying hu, Result.andThen_ok, size_bytes, Option.map_none, Option.isSome_none, Bool.false_eq_true, if_false, hb, extract_bytes b1 b2]
  rfl
theorem slice_ptr {o : Oper} {t e : TypeId} {x : Operand} {lo hi mx : Option Operand} {n z : Nat} (ho : o.op = .slice t x lo hi mx) (hm : hi = none → mx = none)
    (hu : P.underlying t = some (.array n e) ∨ ∃ arr, P.underlying t = some (.pointer arr) ∧ P.underlying arr = some (.array n e)) (hz : szOf P e = some z) :
    PurOk P o fun L => VP.rec none none (fun id off => Option.rec none (fun a => Option.rec none (fun b => Option.rec none (fun m => Bool.rec none
        (some (.sl id (Bool.rec (Nat.add off (Nat.mul a z)) off (Nat.beq m a)) (Nat.sub b a) (Nat.sub m a))) (and' (bounds a b m) (Nat.ble m n))) (bnd (mx.map gOf) L n)) (bnd (hi.map gOf) L n)) (bnd (lo.map gOf) L 0)) ((gOf x).g L).vp := by
  intro η ρ nx L a v hη hL h
  obtain ⟨id, off, h1, h2⟩ := vprec_some h
  obtain ⟨p, h3, h4⟩ := oget_some h2
  obtain ⟨q, h5, h6⟩ := oget_some h4
  obtain ⟨m, h7, h8⟩ := oget_some h6
  obtain ⟨h9, h10⟩ := brec_some h8 (by simp)
  injection h10 with h10
  subst h10
  rw [and'_eq, Bool.and_eq_true] at h9
  obtain ⟨b1, b2⟩ := bounds_iff h9.1
  have b3 := Nat.le_of_ble_eq_true h9.2
  obtain ⟨g1, g2⟩ := tells_ptr (gOf_sound hL x) h1
  have hb := fun w => run_bounds (P := P) (w := w) (isSl := false) (len := n) (cap := n) (bnd_ok hL h3) (bnd_ok hL h5) (bnd_ok hL h7) (fun e => by
    cases hi with
    | none => rw [hm rfl]; rfl
    | some _ => cases e) b1 b2 b3
  refine ⟨_, fun w => ?_, Tells.val (.sl g2 (show q - p ≤ m - p by omega))⟩
  simp only [execOp, ho]
  apply run_v
  rw [g1]
  have he : (if m = p then ({ block := ρ.b id, off := ρ.d id + off, spot := none } : Addr) else ({ block := ρ.b id, off := ρ.d id + off, spot := none } : Addr).add (p * z)) =
      { block := ρ.b id, off := ρ.d id + (Bool.rec (Nat.add off (Nat.mul p z)) off (Nat.beq m p) : Nat), spot := none } := by
    rw [beq_eq]
    by_cases hmp : m = p
    · rw [if_pos hmp, decide_eq_true hmp]
    · rw [if_neg hmp, decide_eq_false hmp, add_mk]
      simp only [Nat.add_assoc]
      rfl
  rcases hu with hu | ⟨arr, hu, hu'⟩
  · simp only [Instr.sliceAt, Sem.run_bind, run_underlying hu, Result.andThen_ok, Instr.sureAddr, Sem.run_pure, hb, run_szOf hz]
    simp only [val]
    rw [← he]
    rfl
  · simp only [Instr.sliceAt, Instr.slice, Sem.run_bind, run_underlying hu, run_underlying hu', Result.andThen_ok, asAddr, Sem.run_pure, hb, run_szOf hz]
    simp only [val]
    rw [← he]
    rfl
end
end Go.Proofs.YtddcgoopgnogeaaGreatDoor.Ev
namespace Go.Proofs.YtddcgoopgnogeaaGreatDoor.Ev
open Go.RowKit (Below)
set_option linter.unusedVariables false
section
variable {P : Program} {w : World} {η : Env} {ρ : Ren} {nx : Nat} {L : Loc} {a : Act}
theorem not_ok {o : Oper} {t : TypeId} {x : Operand} (ho : o.op = .unOp .not t x) : PurOk P o fun L => Option.rec none (fun b => some (.bool (not' b))) ((gOf x).g L).vb := by
  intro η ρ nx L a v hη hL h
  obtain ⟨b, h1, h2⟩ := oget_some h
  injection h2 with h2
  subst h2
  refine ⟨_, fun w => ?_, Tells.val (.bool _)⟩
  simp only [execOp, ho]
  apply run_v
  rw [tells_bool (gOf_sound hL x) h1]
  simp [Op.unary, val, not'_eq]
theorem tells_k {k : IntKind} {K : KC} (hK : KOk k K) {x : AV} {v : Value} {n : Nat} (h : Tells η ρ nx x v) (hx : K.v x = some n) (hof : ∀ n, K.of n ≠ .any) : v = .int k (K.iv n) ∧ n < K.m := by
  obtain rfl := hK.view _ _ hx
  obtain ⟨h1, h2⟩ := h.of (hof n)
  have hn := (hK.wf _ _ _).1 h1
  exact ⟨by rw [h2, hK.valof _ _ _ hn], hn⟩
theorem kC_of {k : IntKind} {K : KC} (h : kC k = some K) (n : Nat) : K.of n ≠ .any := by
  cases k <;> first | (cases h; done) | (injection h with h; subst h; simp)
theorem neg_ok {o : Oper} {t : TypeId} {x : Operand} {k k' : IntKind} {K : KC} (ho : o.op = .unOp .neg t x) (hk : kC k = some K) :
    PurOk P o fun L => Option.rec none (fun n => some (K.of (Nat.mod (Nat.sub K.m n) K.m))) (K.v ((gOf x).g L)) := by
  intro η ρ nx L a v hη hL h
  have hK := kOk hk
  obtain ⟨n, h1, h2⟩ := oget_some h
  injection h2 with h2
  subst h2
  obtain ⟨h3, h4⟩ := tells_k hK (gOf_sound hL x) h1 (kC_of hk)
  have hc : (K.m - n) % K.m < K.m := Nat.mod_lt _ hK.mpos
  refine ⟨_, fun w => ?_, Tells.val ((hK.wf _ _ _).2 hc)⟩
  simp only [execOp, ho]
  apply run_v
  rw [h3]
  simp only [Op.unary, Op.intArith]
  show Result.ok (Value.int k (k.wrap (0 - K.iv n))) w = _
  rw [hK.wrap_of (c := K.m - n)]
  · exact congrArg (Result.ok · w) (hK.valof _ _ _ hc).symm
  · rw [Int.sub_emod, hK.iv_mod h4, Int.natCast_emod, show ((K.m - n : Nat) : Int) = (0 : Int) - n + K.m by omega, Int.add_emod_right]
    simp
theorem wide_some {x : AV} {n : Nat} (h : wide x = some n) : x = .u8 n ∨ x = .i64 n ∨ x = .u32 n ∨ x = .u64 n := by
  unfold wide at h
  cases h1 : x.vu8 with
  | some m => rw [h1] at h; injection h with h; subst h; exact .inl (vu8_some h1)
  | none =>
    rw [h1] at h
    cases h2 : x.vi64 with
    | some m => simp only [h2] at h; injection h with h; subst h; exact .inr (.inl (vi64_some h2))
    | none =>
      simp only [h2] at h
      cases h3 : x.vu32 with
      | some m => simp only [h3] at h; injection h with h; subst h; exact .inr (.inr (.inl (vu32_some h3)))
      | none => simp only [h3] at h; exact .inr (.inr (.inr (vu64_some h)))
theorem wide_val {x : AV} {v : Value} {n : Nat} (h : Tells η ρ nx x v) (hx : wide x = some n) : ∃ k z, v = .int k z ∧ ∀ m : Nat, (m : Int) ∣ 18446744073709551616 → z % (m : Int) = (n : Int) % (m : Int) := by
  rcases wide_some hx with rfl | rfl | rfl | rfl
  · exact ⟨.u8, n, (h.of (by simp)).2, fun m _ => rfl⟩
  · refine ⟨.i64, iv64 n, (h.of (by simp)).2, fun m hm => ?_⟩
    unfold iv64
    split
    · rfl
    · rw [Int.sub_emod, Int.emod_eq_zero_of_dvd hm]; simp
  · exact ⟨.u32, n, (h.of (by simp)).2, fun m _ => rfl⟩
  · exact ⟨.u64, n, (h.of (by simp)).2, fun m _ => rfl⟩
theorem conv_int {o : Oper} {s t : TypeId} {x : Operand} {j k : IntKind} {K : KC} (ho : o.op = .convert s t x) (hs : P.underlying s = some (.int j)) (ht : P.underlying t = some (.int k)) (hk : kC k = some K) :
    PurOk P o fun L => Option.rec none (fun n => some (K.of (Nat.mod n K.m))) (wide ((gOf x).g L)) := by
  intro η ρ nx L a v hη hL h
  have hK := kOk hk
  obtain ⟨n, h1, h2⟩ := oget_some h
  injection h2 with h2
  subst h2
  obtain ⟨k', z, h3, h4⟩ := wide_val (gOf_sound hL x) h1
  have hc : n % K.m < K.m := Nat.mod_lt _ hK.mpos
  refine ⟨_, fun w => ?_, Tells.val ((hK.wf _ _ _).2 hc)⟩
  simp only [execOp, ho]
  apply run_v
  rw [h3]
  simp only [convert, Sem.run_bind, run_underlying hs, run_underlying ht, Result.andThen_ok, Conv.intToInt]
  show Result.ok (Value.int k (k.wrap z)) w = _
  rw [hK.wrap_of (c := n)]
  · exact congrArg (Result.ok · w) (hK.valof _ _ _ hc).symm
  · rw [h4 K.m (by rw [hK.m]; exact Int.natCast_dvd_natCast.2 (Nat.pow_dvd_pow 2 (show k.bits ≤ 64 by cases k <;> decide))), Int.natCast_emod]
theorem conv_str {o : Oper} {s t : TypeId} {x : Operand} (ho : o.op = .convert s t x) (hs : P.underlying s = some .string) (ht : P.underlying t = some .string) :
    PurOk P o fun L => VS.rec none (fun l n => some (.str l n)) ((gOf x).g L).vs := by
  intro η ρ nx L a v hη hL h
  obtain ⟨l, n, h1, h2⟩ := vsrec_some h
  injection h2 with h2
  subst h2
  obtain ⟨g1, g2⟩ := tells_str (gOf_sound hL x) h1
  refine ⟨_, fun w => ?_, Tells.val (.str g2)⟩
  simp only [execOp, ho]
  apply run_v
  rw [g1]
  simp [convert, run_underlying hs, run_underlying ht, val]
/-! Built-in functions. -/
theorem run_builtin {o : Oper} {c : Call} {b : Builtin} (ho : o.op = .call c) (hc : c.callee = .builtin b) :
    ∃ cs, ∀ (a : Act) (w : World), (execOp a.eval o).run P w = (builtin b c.argTypes o.type cs (c.args.map a.eval)).run P w := by
  refine ⟨c.args.map fun x => match x with | .const _ => true | _ => false, fun a w => ?_⟩
  simp only [execOp, ho, resolve, hc, invoke, Sem.run_bind, Sem.run_pure, Result.andThen_ok]
  congr 2
theorem lenV_some {l : Nat} {v : AV} (h : lenV l = some v) : v = .i64 l ∧ l ≤ 1000000000 := by
  unfold lenV at h
  obtain ⟨h1, h2⟩ := brec_some h (by simp)
  injection h2 with h2
  exact ⟨h2.symm, Nat.le_of_ble_eq_true h1⟩
theorem val_len {l : Nat} (h : l ≤ 1000000000) : val ρ η (.i64 l) = goInt l ∧ Wf ρ nx (.i64 l) := by
  refine ⟨?_, .i64 (by omega)⟩
  simp only [val, iv64, goInt]
  rw [if_pos (by omega)]
theorem map_args {xs : Array Operand} {x : Operand} (h : xs.toList = [x]) : xs = #[x] := by
  apply Array.ext'
  rw [h]
theorem len_str {o : Oper} {c : Call} {x : Operand} {t : TypeId} (ho : o.op = .call c) (hc : c.callee = .builtin .len) (ht : c.argTypes = #[t]) (hx : c.args = #[x]) (hu : P.underlying t = some .string) :
    PurOk P o fun L => VS.rec none (fun l _ => lenV l) ((gOf x).g L).vs := by
  intro η ρ nx L a v hη hL h
  obtain ⟨l, n, h1, h2⟩ := vsrec_some h
  obtain ⟨rfl, h3⟩ := lenV_some h2
  obtain ⟨g1, g2⟩ := tells_str (gOf_sound hL x) h1
  obtain ⟨v1, v2⟩ := val_len (ρ := ρ) (η := η) (nx := nx) h3
  refine ⟨_, fun w => ?_, Tells.val v2⟩
  obtain ⟨cs, hcs⟩ := run_builtin (P := P) ho hc
  rw [hcs, ht, hx]
  simp only [builtin]
  apply run_v
  simp [Builtin.len_, run_underlying hu, g1, size_bytes, v1]
theorem len_arr {o : Oper} {c : Call} {x : Operand} {t e : TypeId} {n : Nat} (ho : o.op = .call c) (hc : c.callee = .builtin .len) (ht : c.argTypes = #[t]) (hx : c.args = #[x])
    (hu : P.underlying t = some (.array n e) ∨ ∃ arr, P.underlying t = some (.pointer arr) ∧ P.underlying arr = some (.array n e)) : PurOk P o fun L => lenV n := by
  intro η ρ nx L a v hη hL h
  obtain ⟨rfl, h3⟩ := lenV_some h
  obtain ⟨v1, v2⟩ := val_len (ρ := ρ) (η := η) (nx := nx) h3
  refine ⟨_, fun w => ?_, Tells.val v2⟩
  obtain ⟨cs, hcs⟩ := run_builtin (P := P) ho hc
  rw [hcs, ht, hx]
  simp only [builtin]
  apply run_v
  rcases hu with hu | ⟨arr, hu, hu'⟩
  · simp [Builtin.len_, run_underlying hu, v1]
  · simp [Builtin.len_, run_underlying hu, run_underlying hu', v1]
theorem len_sl {o : Oper} {c : Call} {x : Operand} {t e : TypeId} (ho : o.op = .call c) (hc : c.callee = .builtin .len) (ht : c.argTypes = #[t]) (hx : c.args = #[x]) (hu : P.underlying t = some (.slice e)) :
    PurOk P o fun L => VL.rec none (some (.i64 0)) (fun _ _ l _ => lenV l) (fun _ _ l _ => lenV l) ((gOf x).g L).vl := by
  intro η ρ nx L a v hη hL h
  have hs : ∃ l ad cp, a.eval x = .slice ad l cp ∧ v = .i64 l ∧ l ≤ 1000000000 := by
    have hxt := gOf_sound hL x
    rcases vl_cases ((gOf x).g L) with ⟨h3, h4⟩ | ⟨id, off, l, cp, h3, h4⟩ | ⟨id, eo, l, es, h3, h4⟩ | h3 <;> simp only [h3] at h
    · injection h with h
      have := (hxt.of (by rw [h4]; simp)).2
      rw [h4] at this
      exact ⟨0, none, 0, this, h.symm, by omega⟩
    · obtain ⟨h5, h6⟩ := lenV_some h
      have := (hxt.of (by rw [h4]; simp)).2
      rw [h4] at this
      exact ⟨l, _, _, this, h5, h6⟩
    · obtain ⟨h5, h6⟩ := lenV_some h
      have := (hxt.of (by rw [h4]; simp)).2
      rw [h4] at this
      exact ⟨l, _, _, this, h5, h6⟩
    · cases h
  obtain ⟨l, ad, cp, g1, rfl, g3⟩ := hs
  obtain ⟨v1, v2⟩ := val_len (ρ := ρ) (η := η) (nx := nx) g3
  refine ⟨_, fun w => ?_, Tells.val v2⟩
  obtain ⟨cs, hcs⟩ := run_builtin (P := P) ho hc
  rw [hcs, ht, hx]
  simp only [builtin]
  apply run_v
  simp [Builtin.len_, run_underlying hu, g1, v1]
theorem cap_sl {o : Oper} {c : Call} {x : Operand} {t e : TypeId} (ho : o.op = .call c) (hc : c.callee = .builtin .cap) (ht : c.argTypes = #[t]) (hx : c.args = #[x]) (hu : P.underlying t = some (.slice e)) :
    PurOk P o fun L => VL.rec none (some (.i64 0)) (fun _ _ _ c => lenV c) (fun _ _ _ _ => none) ((gOf x).g L).vl := by
  intro η ρ nx L a v hη hL h
  have hs : ∃ l ad cp, a.eval x = .slice ad l cp ∧ v = .i64 cp ∧ cp ≤ 1000000000 := by
    have hxt := gOf_sound hL x
    rcases vl_cases ((gOf x).g L) with ⟨h3, h4⟩ | ⟨id, off, l, cp, h3, h4⟩ | ⟨id, eo, l, es, h3, h4⟩ | h3 <;> simp only [h3] at h
    · injection h with h
      have := (hxt.of (by rw [h4]; simp)).2
      rw [h4] at this
      exact ⟨0, none, 0, this, h.symm, by omega⟩
    · obtain ⟨h5, h6⟩ := lenV_some h
      have := (hxt.of (by rw [h4]; simp)).2
      rw [h4] at this
      exact ⟨l, _, cp, this, h5, h6⟩
    · cases h
    · cases h
  obtain ⟨l, ad, cp, g1, rfl, g3⟩ := hs
  obtain ⟨v1, v2⟩ := val_len (ρ := ρ) (η := η) (nx := nx) g3
  refine ⟨_, fun w => ?_, Tells.val v2⟩
  obtain ⟨cs, hcs⟩ := run_builtin (P := P) ho hc
  rw [hcs, ht, hx]
  simp only [builtin]
  apply run_v
  simp [Builtin.cap_, run_underlying hu, g1, v1]
end
end Go.Proofs.YtddcgoopgnogeaaGreatDoor.Ev
namespace Go.Proofs.YtddcgoopgnogeaaGreatDoor.Ev
open Go.RowKit (Below)
set_option linter.unusedVariables false
section
variable {P : Program} {w : World} {η : Env} {ρ : Ren} {nx : Nat} {L : Loc} {a : Act}
theorem minI_ok {k : IntKind} {K : KC} (hK : KOk k K) {p q : Nat} (hp : p < K.m) (hq : q < K.m) :
    K.iv (minI K p q) = (if K.iv q < K.iv p then K.iv q else K.iv p) ∧ minI K p q < K.m := by
  unfold minI
  rw [show Nat.ble (Nat.succ (K.key q)) (K.key p) = decide (K.iv q < K.iv p) by rw [ble_eq, decide_eq_decide]; exact hK.key q p hq hp]
  by_cases h : K.iv q < K.iv p
  · rw [decide_eq_true h, if_pos h]; exact ⟨rfl, hq⟩
  · rw [decide_eq_false h, if_neg h]; exact ⟨rfl, hp⟩
theorem maxI_ok {k : IntKind} {K : KC} (hK : KOk k K) {p q : Nat} (hp : p < K.m) (hq : q < K.m) :
    K.iv (maxI K p q) = (if K.iv p < K.iv q then K.iv q else K.iv p) ∧ maxI K p q < K.m := by
  unfold maxI
  rw [show Nat.ble (Nat.succ (K.key p)) (K.key q) = decide (K.iv p < K.iv q) by rw [ble_eq, decide_eq_decide]; exact hK.key p q hp hq]
  by_cases h : K.iv p < K.iv q
  · rw [decide_eq_true h, if_pos h]; exact ⟨rfl, hq⟩
  · rw [decide_eq_false h, if_neg h]; exact ⟨rfl, hp⟩
theorem foldI_ok {k : IntKind} {K : KC} (hk : kC k = some K) {f : Nat → Nat → Nat} {g : Value → Value → Sem Value}
    (hf : ∀ p q, p < K.m → q < K.m → (∀ w, (g (.int k (K.iv p)) (.int k (K.iv q))).run P w = .ok (.int k (K.iv (f p q))) w) ∧ f p q < K.m) (hL : LocOk η ρ nx L a) :
    ∀ (xs : List Operand) (p : Nat) (v : AV), p < K.m → foldI K f (xs.map gOf) p L = some v →
      (∀ w, ((xs.map a.eval).foldlM g (.int k (K.iv p))).run P w = .ok (val ρ η v) w) ∧ Wf ρ nx v
  | [], p, v, hp, h => by
    have : K.of p = v := by injection h
    subst this
    exact ⟨fun w => by simp [(kOk hk).valof _ _ _ hp], ((kOk hk).wf _ _ _).2 hp⟩
  | x :: xs, p, v, hp, h => by
    have h' : (Option.rec none (fun b => foldI K f (xs.map gOf) (f p b) L) (K.v ((gOf x).g L)) : Option AV) = some v := h
    obtain ⟨q, h1, h2⟩ := oget_some h'
    obtain ⟨h3, h4⟩ := tells_k (kOk hk) (gOf_sound hL x) h1 (kC_of hk)
    obtain ⟨h5, h6⟩ := hf p q hp h4
    obtain ⟨i1, i2⟩ := foldI_ok hk hf hL xs (f p q) v h6 h2
    refine ⟨fun w => ?_, i2⟩
    simp only [List.map_cons, List.foldlM_cons, h3, Sem.run_bind, h5, Result.andThen_ok, i1]
theorem min_ok {o : Oper} {c : Call} {x : Operand} {xs : List Operand} {k : IntKind} {K : KC} (ho : o.op = .call c) (hc : c.callee = .builtin .min) (hx : c.args.toList = x :: xs) (hk : kC k = some K) :
    PurOk P o fun L => Option.rec none (fun a => foldI K (minI K) (xs.map gOf) a L) (K.v ((gOf x).g L)) := by
  intro η ρ nx L a v hη hL h
  obtain ⟨p, h1, h2⟩ := oget_some h
  obtain ⟨h3, h4⟩ := tells_k (kOk hk) (gOf_sound hL x) h1 (kC_of hk)
  obtain ⟨i1, i2⟩ := foldI_ok (P := P) (g := Builtin.min2) hk (fun p q hp hq => ⟨fun w => by
    rw [(minI_ok (kOk hk) hp hq).1]; simp [Builtin.min2], (minI_ok (kOk hk) hp hq).2⟩) hL xs p v h4 h2
  refine ⟨_, fun w => ?_, Tells.val i2⟩
  obtain ⟨cs, hcs⟩ := run_builtin (P := P) ho hc
  rw [hcs]
  simp only [builtin]
  apply run_v
  simp only [Builtin.min_, Array.toList_map, hx, List.map_cons, h3]
  exact i1 w
theorem max_ok {o : Oper} {c : Call} {x : Operand} {xs : List Operand} {k : IntKind} {K : KC} (ho : o.op = .call c) (hc : c.callee = .builtin .max) (hx : c.args.toList = x :: xs) (hk : kC k = some K) :
    PurOk P o fun L => Option.rec none (fun a => foldI K (maxI K) (xs.map gOf) a L) (K.v ((gOf x).g L)) := by
  intro η ρ nx L a v hη hL h
  obtain ⟨p, h1, h2⟩ := oget_some h
  obtain ⟨h3, h4⟩ := tells_k (kOk hk) (gOf_sound hL x) h1 (kC_of hk)
  obtain ⟨i1, i2⟩ := foldI_ok (P := P) (g := Builtin.max2) hk (fun p q hp hq => ⟨fun w => by
    rw [(maxI_ok (kOk hk) hp hq).1]; simp [Builtin.max2], (maxI_ok (kOk hk) hp hq).2⟩) hL xs p v h4 h2
  refine ⟨_, fun w => ?_, Tells.val i2⟩
  obtain ⟨cs, hcs⟩ := run_builtin (P := P) ho hc
  rw [hcs]
  simp only [builtin]
  apply run_v
  simp only [Builtin.max_, Array.toList_map, hx, List.map_cons, h3]
  exact i1 w
/-! Structs and arrays that are built. -/
theorem fold_set (off : Nat) : ∀ (v : List Value) (k : Nat) (cs : Array Value), off + k + v.length ≤ cs.size →
    ((v.zipIdx k).foldl (fun cs (p : Value × Nat) => cs.setIfInBounds (off + p.2) p.1) cs).toList = cs.toList.take (off + k) ++ v ++ cs.toList.drop (off + k + v.length)
  | [], k, cs, h => by simp
  | x :: v, k, cs, h => by
    simp only [List.zipIdx_cons, List.foldl_cons]
    simp only [List.length_cons] at h
    rw [fold_set off v (k + 1) _ (by simp; omega)]
    have hlt : off + k < cs.toList.length := by simp; omega
    rw [Array.toList_setIfInBounds]
    have h1 : (cs.toList.set (off + k) x).take (off + (k + 1)) = cs.toList.take (off + k) ++ [x] := by
      rw [show off + (k + 1) = off + k + 1 by omega, List.take_add_one]
      rw [List.take_set_of_le (by omega), List.getElem?_set_self hlt]
      rfl
    have h2 : (cs.toList.set (off + k) x).drop (off + (k + 1) + v.length) = cs.toList.drop (off + k + (x :: v).length) := by
      rw [List.drop_set_of_lt (by omega)]
      simp only [List.length_cons]
      congr 1
      omega
    rw [h1, h2]
    simp
theorem cells_val (hη : Leaves η) {x : AV} (h : Wf ρ nx x) : (val ρ η x).cells = (x.cells.map (val ρ η)).toArray := by
  cases h <;> first | rfl | skip
  · simp [Value.cells, val, vals_eq, AV.cells]
  · rename_i t
    have : (val ρ η (.sym t)).cells = #[val ρ η (.sym t)] := by
      cases t <;> first | rfl | exact (hη _).2
    rw [this]; simp [AV.cells]
/-- The parts of a value that is built: their places and values. -/
theorem fill_ok (hη : Leaves η) (hL : LocOk η ρ nx L a) (place : Nat → Option (Nat × Nat)) : ∀ (ps : List (Nat × Operand)) (l : List (Nat × Nat × G)) (z c : List AV),
    places (ps.map fun p => (p.1, gOf p.2)) place = some l → fillL l L z = some c → (∀ x ∈ z, Wf ρ nx x ∧ x.leaf = true) →
      Instr.fill place (z.map (val ρ η)).toArray (ps.map fun p => (p.1, a.eval p.2)) = some (c.map (val ρ η)).toArray ∧ (∀ x ∈ c, Wf ρ nx x ∧ x.leaf = true)
  | [], l, z, c, hp, h, hz => by
    simp only [List.map_nil, places, List.mapM_nil] at hp
    injection hp with hp
    subst hp
    injection h with h
    subst h
    exact ⟨rfl, hz⟩
  | (i, x) :: ps, l, z, c, hp, h, hz => by
    simp only [List.map_cons, places, List.mapM_cons, bind, Option.bind_eq_some_iff, pure, Option.some.injEq, Option.map_eq_some_iff] at hp
    obtain ⟨e, ⟨⟨off, n⟩, h1, rfl⟩, l', h2, rfl⟩ := hp
    have h' : (Bool.rec none (fillL l' L (over off ((gOf x).g L).cells z)) (and' ((gOf x).g L).ok (and' (and' (Nat.beq (len ((gOf x).g L).cells) n) (leaves ((gOf x).g L).cells)) (Nat.ble (Nat.add off n) (len z)))) : Option (List AV)) = some c := h
    obtain ⟨h3, h4⟩ := brec_some h' (by simp)
    rw [and'_eq, and'_eq, and'_eq, Bool.and_eq_true, Bool.and_eq_true, Bool.and_eq_true] at h3
    obtain ⟨h0, ⟨h5, h6⟩, h7⟩ := h3
    have h5 := Nat.eq_of_beq_eq_true h5
    have h7 : off + n ≤ len z := Nat.le_of_ble_eq_true h7
    rw [len_eq] at h5 h7
    have h6 := (leaves_iff _).1 h6
    obtain ⟨g1, g2⟩ := (gOf_sound hL x).ok h0
    rw [over_eq] at h4
    have hwf : ∀ y ∈ ((gOf x).g L).cells, Wf ρ nx y := by
      cases hq : (gOf x).g L <;> rw [hq] at g1 <;> first | (intro y hy; rcases List.mem_singleton.1 hy with rfl; exact g1) | (exact g1.aggs.1) | (intro y hy; cases hy)
    obtain ⟨i1, i2⟩ := fill_ok hη hL place ps l' (z.take off ++ (((gOf x).g L).cells ++ z.drop (off + ((gOf x).g L).cells.length))) c h2 h4 (fun y hy => by
      rcases List.mem_append.1 hy with hy | hy
      · exact hz y (List.mem_of_mem_take hy)
      · rcases List.mem_append.1 hy with hy | hy
        · exact ⟨hwf y hy, h6 y hy⟩
        · exact hz y (List.mem_of_mem_drop hy))
    refine ⟨?_, i2⟩
    have hcells := cells_val hη g1
    have hsz : (val ρ η ((gOf x).g L)).cells.size = n := by rw [hcells]; simp [h5]
    simp only [List.map_cons, Instr.fill, h1, g2]
    rw [if_neg (by
      rw [hsz]
      have : (z.map (val ρ η)).toArray.size = z.length := by simp
      rw [this]
      simp only [ne_eq, not_true_eq_false, decide_false, Bool.false_or, decide_eq_true_eq]
      omega)]
    rw [← i1]
    congr 1
    apply Array.ext'
    rw [hcells]
    have hf := fold_set off (((gOf x).g L).cells.map (val ρ η)) 0 (z.map (val ρ η)).toArray (by simp; omega)
    rw [Nat.add_zero] at hf
    rw [← Array.foldl_toList, Array.toList_zipIdx]
    rw [hf]
    simp [List.map_take, List.map_drop]
theorem Wf.cells {x : AV} (h : Wf ρ nx x) (hl : ∀ y ∈ x.cells, y.leaf = true) : ∀ y ∈ x.cells, Wf ρ nx y ∧ y.leaf = true := by
  intro y hy
  refine ⟨?_, hl y hy⟩
  cases h <;> first | (rcases List.mem_singleton.1 hy with rfl; constructor <;> assumption) | (rename_i h1 h2; exact h1 y hy) | (rcases List.mem_singleton.1 hy with rfl; constructor)
theorem parts_map (ps : Array (Nat × Operand)) (f : Operand → Value) : (ps.map fun (i, x) => (i, f x)).toList = ps.toList.map fun p => (p.1, f p.2) := by simp
theorem build_ok (hη : Leaves η) {o : Oper} {t : TypeId} {ps : Array (Nat × Operand)} {z : AV} {place : Nat → Option (Nat × Nat)} {l : List (Nat × Nat × G)} (ho : o.op = .build t ps) (hz : zeroOf P t = some z)
    (hp : (∃ fs pl, P.underlying t = some (.struct fs) ∧ (fs.toList.mapM fun f => (P.info? f.type).map fun i => (f.offset, i.size)) = some pl ∧ place = fun i => pl.toArray[i]?) ∨
      ∃ n e k, P.underlying t = some (.array n e) ∧ szOf P e = some k ∧ place = fun i => some (i * k, k))
    (hl : places (ps.toList.map fun p => (p.1, gOf p.2)) place = some l) {v : AV} (hL : LocOk η ρ nx L a) (h : (Option.rec none (fun c => some (.agg c)) (fillL l L z.cells) : Option AV) = some v) :
    (∀ w, (execOp a.eval o).run P w = .ok (.value (val ρ η v)) w) ∧ Wf ρ nx v := by
  obtain ⟨c, h1, h2⟩ := oget_some h
  injection h2 with h2
  subst h2
  obtain ⟨i, zv, z1, z2, z3, z4, z5⟩ := zeroOf_some hz
  obtain ⟨z6, z7⟩ := abs_ok (ρ := ρ) (η := η) (nx := nx) z3 z4
  obtain ⟨f1, f2⟩ := fill_ok hη hL place ps.toList l z.cells c hl h1 (z6.cells z5)
  refine ⟨fun w => ?_, .agg (fun x hx => (f2 x hx).1) (fun x hx => (f2 x hx).2)⟩
  simp only [execOp, ho]
  apply run_v
  have hc : zv.cells = (z.cells.map (val ρ η)).toArray := by rw [z7]; exact cells_val hη z6
  rw [run_build w t _ (c.map (val ρ η)).toArray]
  · simp [val, vals_eq]
  · rw [parts_map]
    unfold Program.built
    rcases hp with ⟨fs, pl, p1, p2, rfl⟩ | ⟨n, e, k, p1, p2, rfl⟩
    · simp only [z1, p1, z2, p2, hc]
      exact f1
    · obtain ⟨ie, e1, e2⟩ := szOf_some p2
      simp only [z1, p1, z2, e1, hc, e2]
      exact f1
end
end Go.Proofs.YtddcgoopgnogeaaGreatDoor.Ev
namespace Go.Proofs.YtddcgoopgnogeaaGreatDoor.Ev
open Go.RowKit (Below)
set_option linter.unusedVariables false
section
variable {P : Program} {w : World} {η : Env} {ρ : Ren} {nx : Nat} {L : Loc} {a : Act}
theorem extOf_some {f : Operand} {fn : Func} (h : extOf P f = some fn) : ∃ i, f = .func i ∧ P.funcs[i]? = some fn ∧ fn.body.isNone = true ∧ fn.origin = "" ∧ (fn.name == "runtime.NumGoroutine") = false := by
  unfold extOf at h
  split at h
  · rename_i i
    split at h
    · rename_i fn' h1
      split at h
      · rename_i h2 h3 h4
        injection h with h
        subst h
        exact ⟨i, rfl, h1, h2, by simpa using h3, h4⟩
      · cases h
    · cases h
  · cases h
theorem run_ext {o : Oper} {c : Call} {f : Operand} {fn : Func} {e : Array Value → Sem Value} {u : Value} (ho : o.op = .call c) (hc : c.callee = .value f) (hf : extOf P f = some fn)
    (hn : Extern.findNext fn = none) (he : Extern.find fn = some e) (hr : (e (c.args.map a.eval)).run P w = .ok u w) : (execOp a.eval o).run P w = .ok (.value u) w := by
  obtain ⟨i, rfl, h1, h2, h3, h4⟩ := extOf_some hf
  have := run_callFunc_extern h1 h4 h2 hn he (c.args.map a.eval) w
  simp only [execOp, ho, resolve, hc, Sem.run_bind, Act.eval, Deferred.ofValue, Sem.run_pure, Result.andThen_ok, invoke]
  simp only [Array.empty_append, Array.append_empty]
  rw [this, hr]
  rfl
theorem findNext_name {fn : Func} (ho : fn.origin = "") (hl : Extern.allNextRows.lookup fn.name = none) : Extern.findNext fn = none := by
  unfold Extern.findNext
  rw [ho]
  simp only [hl, Option.map_none]
  have : Extern.allNextRows.lookup "" = none := by kernel_rfl
  simp [this]
theorem find_noEscape {fn : Func} (hn : fn.name = "internal/abi.NoEscape") : Extern.find fn = some Extern.AbiNoEscape.same := by
  unfold Extern.find
  rw [hn]
  have h1 : Extern.allGenericRows.lookup "internal/abi.NoEscape" = none := by kernel_rfl
  have h2 : Extern.allTypedRows.lookup "internal/abi.NoEscape" = none := by kernel_rfl
  have h3 : Extern.allRows.lookup "internal/abi.NoEscape" = some Extern.AbiNoEscape.same := by kernel_rfl
  simp [h1, h2, h3]
theorem find_cmp {fn : Func} (hn : fn.name = "internal/bytealg.abigen_runtime_cmpstring") : Extern.find fn = some Extern.BytealgCompare.compare := by
  unfold Extern.find
  rw [hn]
  have h1 : Extern.allGenericRows.lookup "internal/bytealg.abigen_runtime_cmpstring" = none := by kernel_rfl
  have h2 : Extern.allTypedRows.lookup "internal/bytealg.abigen_runtime_cmpstring" = none := by kernel_rfl
  have h3 : Extern.allRows.lookup "internal/bytealg.abigen_runtime_cmpstring" = some Extern.BytealgCompare.compare := by kernel_rfl
  simp [h1, h2, h3]
theorem compare_of : ∀ a b : List UInt8, Lib.compareBytes a b = (if Op.bytesLess a b then -1 else if a == b then 0 else 1)
  | [], [] => rfl
  | [], _ :: _ => rfl
  | _ :: _, [] => rfl
  | a :: x, b :: y => by
    have ih := compare_of x y
    simp only [Lib.compareBytes, Op.bytesLess, List.cons_beq_cons, ih]
    rcases Nat.lt_trichotomy a.toNat b.toNat with h | h | h
    · have h1 : a < b := UInt8.lt_iff_toNat_lt.2 h
      simp [h1]
    · obtain rfl := UInt8.toNat_inj.1 h
      have h2 : ¬ a < a := fun h' => by have := UInt8.lt_iff_toNat_lt.1 h'; omega
      simp [h2]
    · have h1 : b < a := UInt8.lt_iff_toNat_lt.2 h
      have h2 : ¬ a < b := fun h' => by have := UInt8.lt_iff_toNat_lt.1 h'; omega
      have h3 : (a == b) = false := by rw [beq_eq_false_iff_ne]; rintro rfl; omega
      simp [h1, h2, h3]
theorem run_compare (p q : ByteArray) : (Extern.BytealgCompare.compare #[.string p, .string q]).run P w = .ok (goInt (Extern.BytealgCompare.cmp p q)) w := rfl
theorem run_sd_nil (ts : Array TypeId) (t : TypeId) (l c : Nat) : (Builtin.unsafeSliceData_ ts t #[.slice none l c]).run P w = .ok (.pointer none) w := rfl
theorem run_sd (ts : Array TypeId) (t : TypeId) (ad : Addr) (l c : Nat) (h : c ≠ 0) : (Builtin.unsafeSliceData_ ts t #[.slice (some ad) l c]).run P w = .ok (.pointer (some ad)) w := by
  show (if c ≠ 0 then (pure (.pointer (some ad)) : Sem Value) else _).run P w = _
  rw [if_pos h]
  rfl
theorem map1 (f : Operand → Value) (x : Operand) : #[x].map f = #[f x] := by simp
theorem map2 (f : Operand → Value) (x y : Operand) : #[x, y].map f = #[f x, f y] := by simp
theorem noEscape_ok {o : Oper} {c : Call} {f x : Operand} {fn : Func} (ho : o.op = .call c) (hc : c.callee = .value f) (hf : extOf P f = some fn) (hx : c.args = #[x]) (hn : fn.name = "internal/abi.NoEscape") :
    PurOk P o fun L => Bool.rec none (some ((gOf x).g L)) ((gOf x).g L).ok := by
  intro η ρ nx L a v hη hL h
  obtain ⟨h1, h2⟩ := brec_some h (by simp)
  injection h2 with h2
  subst h2
  obtain ⟨_, _, _, _, hor, _⟩ := extOf_some hf
  refine ⟨a.eval x, fun w => ?_, gOf_sound hL x⟩
  refine run_ext ho hc hf (findNext_name hor (by rw [hn]; kernel_rfl)) (find_noEscape hn) ?_
  rw [hx, map1]
  rfl
theorem cmp_ok {o : Oper} {c : Call} {f x y : Operand} {fn : Func} (ho : o.op = .call c) (hc : c.callee = .value f) (hf : extOf P f = some fn) (hx : c.args = #[x, y]) (hn : fn.name = "internal/bytealg.abigen_runtime_cmpstring") :
    PurOk P o fun L => strOp (fun l n l' n' => .i64 (Bool.rec (Bool.rec 1 0 (strEq l n l' n')) 18446744073709551615 (strLt l n l' n'))) ((gOf x).g L) ((gOf y).g L) := by
  intro η ρ nx L a v hη hL h
  obtain ⟨l, n, l', n', h1, h2, rfl⟩ := strOp_some h
  obtain ⟨_, _, _, _, hor, _⟩ := extOf_some hf
  obtain ⟨g1, g2⟩ := tells_str (gOf_sound hL x) (show ((gOf x).g L).vs = .str l n by rw [h1]; rfl)
  obtain ⟨g3, g4⟩ := tells_str (gOf_sound hL y) (show ((gOf y).g L).vs = .str l' n' by rw [h2]; rfl)
  have hw : Wf ρ nx (.i64 (Bool.rec (Bool.rec 1 0 (strEq l n l' n')) 18446744073709551615 (strLt l n l' n'))) := by
    cases strLt l n l' n' <;> cases strEq l n l' n' <;> exact .i64 (by decide)
  refine ⟨_, fun w => ?_, Tells.val hw⟩
  refine run_ext ho hc hf (findNext_name hor (by rw [hn]; kernel_rfl)) (find_cmp hn) ?_
  rw [hx, map2, g1, g3, run_compare, Lib.cmp_eq, compare_of, bytesLess_of g2 g4, strEq_of g2 g4]
  cases strLt l n l' n' <;> cases strEq l n l' n' <;> simp [val, goInt, iv64]
theorem sliceData_ok {o : Oper} {c : Call} {x : Operand} (ho : o.op = .call c) (hc : c.callee = .builtin .unsafeSliceData) (hx : c.args = #[x]) :
    PurOk P o fun L => VL.rec none (some .nilp) (fun id off _ c => Nat.rec none (fun _ _ => some (.ptr id off)) c) (fun id eo l es => Nat.rec none (fun _ _ => some (.ptr id (Nat.mul eo es))) l) ((gOf x).g L).vl := by
  intro η ρ nx L a v hη hL h
  have hxt := gOf_sound hL x
  obtain ⟨cs, hcs⟩ := run_builtin (P := P) ho hc
  rcases vl_cases ((gOf x).g L) with ⟨h3, h4⟩ | ⟨id, off, l, cp, h3, h4⟩ | ⟨id, eo, l, es, h3, h4⟩ | h3 <;> simp only [h3] at h
  · injection h with h
    subst h
    have := (hxt.of (by rw [h4]; simp)).2
    rw [h4] at this
    refine ⟨_, fun w => ?_, Tells.val .nilp⟩
    rw [hcs, hx, map1, this]
    simp only [builtin]
    apply run_v
    exact run_sd_nil _ _ _ _
  · cases cp with
    | zero => cases h
    | succ cp =>
      injection h with h
      subst h
      obtain ⟨g1, g2⟩ := hxt.of (by rw [h4]; simp)
      rw [h4] at g1 g2
      cases g1 with
      | sl hid hl =>
        refine ⟨_, fun w => ?_, Tells.val (.ptr hid)⟩
        rw [hcs, hx, map1, g2]
        simp only [builtin]
        apply run_v
        exact run_sd _ _ _ _ _ (by omega)
  · cases l with
    | zero => cases h
    | succ l =>
      injection h with h
      subst h
      obtain ⟨g1, g2⟩ := hxt.of (by rw [h4]; simp)
      rw [h4] at g1 g2
      cases g1 with
      | slo hid hl =>
        refine ⟨_, fun w => ?_, Tells.val (.ptr hid)⟩
        rw [hcs, hx, map1, g2]
        simp only [builtin]
        apply run_v
        exact run_sd _ _ _ _ _ (by omega)
  · cases h
theorem binC_known {op : BinOp} {t : TypeId} {f : AV → AV → Option AV} (hf : binC P op t = some f) : ∀ u v r, f u v = some r → u ≠ .any ∧ v ≠ .any := by
  intro u v r h
  have kv : ∀ {k K}, kC k = some K → K.v .any = none := fun {k K} hk => by cases k <;> first | (cases hk; done) | (injection hk with hk; subst hk; rfl)
  have ag : ∀ {ks : List LK} {x y : AV} {b : Bool}, eqAgg ks x y = some b → x ≠ .any ∧ y ≠ .any := fun {ks x y b} h => by
    obtain ⟨l, h1, h2⟩ := oget_some h
    obtain ⟨m, h3, h4⟩ := oget_some h2
    exact ⟨(by rintro rfl; cases h1), (by rintro rfl; cases h3)⟩
  have an : ∀ {g : AV → AV → Option Bool} {x y : AV} {b : Bool}, eqAny P t = some g → g x y = some b → x ≠ .any ∧ y ≠ .any := fun {g x y b} hg h => by
    unfold eqAny at hg
    split at hg
    · split at hg
      · injection hg with hg; subst hg; exact ag h
      · cases hg
    · split at hg
      · injection hg with hg; subst hg; exact ag h
      · cases hg
    · split at hg
      · injection hg with hg; subst hg
        unfold eqP at h
        refine ⟨(by rintro rfl; cases h), ?_⟩
        rintro rfl
        rcases vp_cases x with ⟨h1, _⟩ | ⟨i, o, h1, _⟩ | h1 <;> rw [h1] at h <;> cases h
      · cases hg
    · injection hg with hg; subst hg
      obtain ⟨p, q, rfl, rfl, _⟩ := eqB_some h
      exact ⟨by simp, by simp⟩
    · injection hg with hg; subst hg
      unfold eqL at h
      refine ⟨(by rintro rfl; cases h), ?_⟩
      rintro rfl
      rcases vl_cases x with ⟨h1, _⟩ | ⟨i, o, l, c, h1, _⟩ | ⟨i, o, l, c, h1, _⟩ | h1 <;> rw [h1] at h <;> cases h
    · injection hg with hg; subst hg
      unfold eqM at h
      refine ⟨(by rintro rfl; cases h), ?_⟩
      rintro rfl
      rcases vm_cases x with ⟨h1, _⟩ | ⟨i, h1, _⟩ | h1 <;> rw [h1] at h <;> cases h
    · cases hg
  unfold binC at hf
  split at hf
  · rename_i k hu
    cases hk : kC k with
    | none => rw [hk] at hf; cases hf
    | some K =>
      rw [hk] at hf
      injection hf with hf
      subst hf
      have hv := kv hk
      have one : ∀ {a b}, K.v u = some a → K.v v = some b → u ≠ .any ∧ v ≠ .any := fun {a b} h1 h2 => ⟨(by rintro rfl; rw [hv] at h1; cases h1), (by rintro rfl; rw [hv] at h2; cases h2)⟩
      have two : ∀ {a b}, K.v u = some a → v.vx = some b → u ≠ .any ∧ v ≠ .any := fun {a b} h1 h2 => ⟨(by rintro rfl; rw [hv] at h1; cases h1), (by rintro rfl; cases h2)⟩
      cases op <;> first | exact (intOp_some h).elim fun a ⟨b, h1, h2, _⟩ => one h1 h2 | exact (intOp?_some h).elim fun a ⟨b, h1, h2, _⟩ => one h1 h2 | exact (shOp_some h).elim fun a ⟨b, h1, h2, _⟩ => two h1 h2
  · have str : ∀ {x y : AV} {g}, strOp g x y = some r → x ≠ .any ∧ y ≠ .any := fun {x y g} h => by
      obtain ⟨l, n, l', n', rfl, rfl, _⟩ := strOp_some h
      exact ⟨by simp, by simp⟩
    have str' : ∀ {x y : AV} {g}, strOp? g x y = some r → x ≠ .any ∧ y ≠ .any := fun {x y g} h => by
      obtain ⟨l, n, l', n', rfl, rfl, _⟩ := strOp?_some h
      exact ⟨by simp, by simp⟩
    cases op <;> first | (cases hf; done) | (injection hf with hf; subst hf; first | exact str h | exact str' h)
  · split at hf
    · cases he : eqAny P t with
      | none => rw [he] at hf; cases hf
      | some g =>
        rw [he] at hf
        injection hf with hf
        subst hf
        obtain ⟨b, h1, h2⟩ := oget_some h
        exact an he h1
    · cases he : eqAny P t with
      | none => rw [he] at hf; cases hf
      | some g =>
        rw [he] at hf
        injection hf with hf
        subst hf
        obtain ⟨b, h1, h2⟩ := oget_some h
        exact an he h1
    · cases hf
end
end Go.Proofs.YtddcgoopgnogeaaGreatDoor.Ev
