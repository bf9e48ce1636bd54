/- What the evaluator tells of operations that turn memory. It proves no statement. -/
import Derived.Test.YtddcgoopgnogeaaGreatDoorEvC
import Derived.Laws.AppendOwn
set_option linter.unusedVariables false
set_option linter.unusedSimpArgs false
set_option linter.unusedSectionVars false
namespace Go.Proofs.YtddcgoopgnogeaaGreatDoor.Ev
open Go.RowKit (Below)
set_option linter.unusedVariables false
section
variable {P : Program} {η : Env} {base : Nat} {W w w' : World} {ρ : Ren} {H H' : Heap} {L : Loc} {a : Act} {nx : Nat}
/-- What an operation that turns memory does, no call. -/
def TurnOk (P : Program) (o : Oper) (f : Loc → Heap → Res) : Prop :=
  ∀ (η : Env) (base : Nat) (W : World) (ρ : Ren) (H : Heap) (w : World) (L : Loc) (a : Act) (v : AV) (H' : Heap), Leaves η → Sim η base W ρ H w → LocOk η ρ H.nx L a → f L H = .some v H' →
    ∃ ρ' w' n, (execOp a.eval o).run P w = .ok n w' ∧ (n = .value (val ρ' η v) ∨ (n = .skip ∧ v = .tup [])) ∧ Ext ρ ρ' H.nx ∧ Sim η base W ρ' H' w' ∧ Wf ρ' H'.nx v ∧ H.nx ≤ H'.nx
theorem run_u {s : Sem Unit} (h : s.run P w = .ok () w') : Sem.run P (do s; pure Next.skip) w = .ok .skip w' := by simp [h]
theorem vpres_some {x : VP} {f : Nat → Nat → Res} {v : AV} (h : (VP.rec .none .none f x : Res) = .some v H') : ∃ i o, x = .ptr i o ∧ f i o = .some v H' := by
  cases x <;> first | (cases h; done) | exact ⟨_, _, rfl, h⟩
theorem vmres_some {x : VM} {f : Nat → Res} {v : AV} (h : (VM.rec .none .none f x : Res) = .some v H') : ∃ i, x = .map i ∧ f i = .some v H' := by
  cases x <;> first | (cases h; done) | exact ⟨_, rfl, h⟩
theorem tup_nil : Wf ρ nx (.tup []) := .tup fun x hx => by cases hx
theorem store_ok {o : Oper} {t : TypeId} {x y : Operand} {n : Nat} (ho : o.op = .store t x y) (hz : szOf P t = some n) :
    TurnOk P o fun L H => VP.rec .none .none (fun id off => Bool.rec .none (Option.rec .none (fun H' => .some (.tup []) H') (H.sets id off ((gOf y).g L).cells)) (and' (and' (Nat.beq (len ((gOf y).g L).cells) n) (leaves ((gOf y).g L).cells)) ((gOf y).g L).ok)) ((gOf x).g L).vp := by
  intro η base W ρ H w L a v H' hη hS hL h
  obtain ⟨id, off, h1, h2⟩ := vpres_some h
  obtain ⟨h3, h4⟩ := bres_some h2
  obtain ⟨H1, h5, h6⟩ := ores_some h4
  injection h6 with h6 h7
  subst h7
  subst h6
  rw [and'_eq, and'_eq, Bool.and_eq_true, Bool.and_eq_true] at h3
  obtain ⟨⟨g1, g2⟩, g3⟩ := h3
  have g1 := Nat.eq_of_beq_eq_true g1
  rw [len_eq] at g1
  obtain ⟨g4, g5⟩ := (gOf_sound hL y).ok g3
  obtain ⟨p1, p2⟩ := tells_ptr (gOf_sound hL x) h1
  obtain ⟨w', r1, r2, r3⟩ := hS.sets (P := P) hη p2 h5 (g4.cells ((leaves_iff _).1 g2))
  refine ⟨ρ, w', .skip, ?_, .inr ⟨rfl, rfl⟩, Ext.refl _ _, r2, tup_nil, by omega⟩
  simp only [execOp, ho]
  apply run_u
  have hc := cells_val hη g4
  rw [p1, g5]
  simp [Instr.storeAt, Instr.sureAddr, storeVar, run_szOf hz, hc, g1, r1]
theorem sameBits_ok {kt : TypeId} {td : TypeDesc} {kd : LK} (hu : P.underlying kt = some td) (hk : leafK P kt = some kd) {x y : AV} (hx : Wf ρ nx x) (hy : Wf ρ nx y) (h : eqK kd x y = some true) :
    Instr.sameBits 10000 (val ρ η y) (val ρ η x) = true := by
  unfold leafK at hk
  rw [hu] at hk
  cases td <;> first | (cases hk; done) | skip
  · injection hk with hk; subst hk
    obtain ⟨p, q, rfl, rfl, hb⟩ := eqB_some h
    have : p = q := by simpa using hb.symm
    subst this
    simp [val, Instr.sameBits]
  · injection hk with hk; subst hk
    obtain ⟨k, p, q, h1, h2, hb⟩ := eqI_some (η := η) hx hy h
    rw [h1, h2]
    have : p = q := by simpa using hb.symm
    subst this
    simp [Instr.sameBits]
  · injection hk with hk; subst hk
    obtain ⟨p, q, h1, h2, hb⟩ := eqS_some (η := η) hx hy h
    rw [h1, h2]
    have hl : p.toList = q.toList := by simpa using hb.symm
    simp only [Instr.sameBits]
    rw [beq_toListBytes, hl]
    simp
theorem mput_ok {kt : TypeId} {td : TypeDesc} {kd : LK} (hu : P.underlying kt = some td) (hk : leafK P kt = some kd) {k v : AV} (hkw : Wf ρ nx k) (hv : Wf ρ nx v) :
    ∀ (l : List (AV × AV)) (es : List MapEntry) (i : Nat) (l' : List (AV × AV)), (∀ p ∈ l, Wf ρ nx p.1 ∧ Wf ρ nx p.2) → es.map (fun e => (e.key, e.val)) = pairs ρ η l → mput kd l k v = some l' →
      (∀ p ∈ l', Wf ρ nx p.1 ∧ Wf ρ nx p.2) ∧
      ((Instr.findNow td (val ρ η k) es i = some none ∧ pairs ρ η l' = pairs ρ η l ++ [(val ρ η k, val ρ η v)]) ∨
       ∃ j e, Instr.findNow td (val ρ η k) es i = some (some (i + j, e.val)) ∧ es[j]? = some e ∧ Instr.sameBits 10000 e.key (val ρ η k) = true ∧ pairs ρ η l' = (pairs ρ η l).modify j fun _ => (val ρ η k, val ρ η v))
  | [], es, i, l', hw, he, h => by
    have : es = [] := by simpa [pairs] using he
    subst this
    injection h with h
    subst h
    exact ⟨fun p hp => by rcases List.mem_singleton.1 hp with rfl; exact ⟨hkw, hv⟩, .inl ⟨rfl, by simp [pairs]⟩⟩
  | p :: l, es, i, l', hw, he, h => by
    obtain ⟨e, es, rfl, e1, e2, e3⟩ := pairs_cons he
    have h' : (Option.rec none (fun b => Bool.rec (Option.rec none (fun r => some (p :: r)) (mput kd l k v)) (some ((k, v) :: l)) b) (eqK kd k p.1) : Option (List (AV × AV))) = some l' := h
    obtain ⟨b, h1, h2⟩ := oget_some h'
    have hs := same_ok (η := η) hu hk hkw (hw p (by simp)).1 h1
    cases b with
    | true =>
      injection h2 with h2
      subst h2
      refine ⟨fun q hq => ?_, .inr ⟨0, e, ?_, rfl, by rw [e1]; exact sameBits_ok hu hk hkw (hw p (by simp)).1 h1, by simp [pairs]⟩⟩
      · rcases List.mem_cons.1 hq with rfl | hq
        · exact ⟨hkw, hv⟩
        · exact hw q (by simp [hq])
      · simp only [Instr.findNow, e1, hs, Nat.add_zero]
    | false =>
      obtain ⟨r, h3, h4⟩ := oget_some h2
      injection h4 with h4
      subst h4
      obtain ⟨i1, i2⟩ := mput_ok hu hk hkw hv l es (i + 1) r (fun q hq => hw q (by simp [hq])) e3 h3
      refine ⟨fun q hq => ?_, ?_⟩
      · rcases List.mem_cons.1 hq with rfl | hq
        · exact hw _ (by simp)
        · exact i1 q hq
      · rcases i2 with ⟨j1, j2⟩ | ⟨j, e', j1, j2, j3, j4⟩
        · refine .inl ⟨by simp only [Instr.findNow, e1, hs]; exact j1, ?_⟩
          simp only [pairs, List.map_cons] at j2 ⊢
          rw [j2]; rfl
        · refine .inr ⟨j + 1, e', by simp only [Instr.findNow, e1, hs]; rw [j1, show i + (j + 1) = i + 1 + j by omega], j2, j3, ?_⟩
          simp only [pairs, List.map_cons] at j4 ⊢
          rw [j4]; rfl
end
end Go.Proofs.YtddcgoopgnogeaaGreatDoor.Ev
namespace Go.Proofs.YtddcgoopgnogeaaGreatDoor.Ev
open Go.RowKit (Below)
set_option linter.unusedVariables false
section
variable {P : Program} {η : Env} {base : Nat} {W w w' : World} {ρ : Ren} {H H' : Heap} {L : Loc} {a : Act} {nx : Nat}
/-- A live map is told anew. -/
theorem Sim.remap (h : Sim η base W ρ H w) {id : Nat} {l l' : List (AV × AV)} (hid : id < H.nx) (ho : H.mp id = some l) {es : Array MapEntry} {clock : Nat}
    (hw : ∀ p ∈ l', Wf ρ H.nx p.1 ∧ Wf ρ H.nx p.2) (he : es.toList.map (fun e => (e.key, e.val)) = pairs ρ η l') (hbn : Born es clock) :
    ∃ w', (setObj (ρ.b id) (.map es clock)).run P w = .ok () w' ∧ Sim η base W ρ (H.put id (.mp l')) w' := by
  obtain ⟨o, h1, h2⟩ := oget_some ho
  obtain ⟨g7, es0, clock0, g8, g9, _⟩ := h.mp hid ho
  have hlt : ρ.b id < w.heap.size := (Array.getElem?_eq_some_iff.1 g8).1
  refine ⟨{ w with heap := w.heap.setIfInBounds (ρ.b id) (.map es clock) }, by simp [setObj, Sem.run, g8], ?_⟩
  refine h.put hid h1 ?_ (fun k hk => ?_) (by simp) rfl rfl rfl
  · exact ⟨hw, es, clock, by simp [hlt], he, hbn⟩
  · simp only [Array.getElem?_setIfInBounds]
    rw [if_neg (by omega)]
theorem modify_pairs {es : Array MapEntry} {j : Nat} {k v : Value} {l : List (Value × Value)} (h : es.toList.map (fun e => (e.key, e.val)) = l) :
    (es.modify j fun e => { e with key := k, val := v }).toList.map (fun e => (e.key, e.val)) = l.modify j fun _ => (k, v) := by
  subst h
  apply List.ext_getElem?
  intro i
  simp only [Array.toList_modify, List.getElem?_map, List.getElem?_modify]
  by_cases hi : j = i
  · subst hi
    cases es.toList[j]? <;> simp
  · cases es.toList[i]? <;> simp [hi]
theorem Born.push {es : Array MapEntry} {clock : Nat} (h : Born es clock) {k v : Value} : Born (es.push { key := k, val := v, born := clock }) (clock + 1) := by
  obtain ⟨h1, h2⟩ := h
  refine ⟨fun b hb => ?_, ?_⟩
  · simp only [Array.toList_push, List.map_append, List.mem_append] at hb
    rcases hb with hb | hb
    · have := h1 b hb; omega
    · simp at hb; omega
  · simp only [Array.toList_push, List.map_append]
    rw [List.nodup_append]
    refine ⟨h2, by simp, fun a ha b hb => ?_⟩
    simp at hb
    subst hb
    have := h1 a ha
    omega
theorem Born.modify {es : Array MapEntry} {clock : Nat} (h : Born es clock) {j : Nat} {k v : Value} : Born (es.modify j fun e => { e with key := k, val := v }) clock := by
  have e : (es.modify j fun e => { e with key := k, val := v }).toList.map (·.born) = es.toList.map (·.born) := by
    apply List.ext_getElem?
    intro i
    simp only [Array.toList_modify, List.getElem?_map, List.getElem?_modify]
    by_cases hi : j = i
    · subst hi
      cases es.toList[j]? <;> simp
    · cases es.toList[i]? <;> simp [hi]
  unfold Born
  rw [e]
  exact h
theorem mapUpdate_ok {o : Oper} {t kt e : TypeId} {x i y : Operand} {kd : LK} (ho : o.op = .mapUpdate t x i y ∨ o.op = .insert t x i y) (hu : P.underlying t = some (.map kt e)) (hk : leafK P kt = some kd) :
    TurnOk P o fun L H => VM.rec .none .none (fun id => Option.rec .none (fun l => Option.rec .none (fun l' => Bool.rec .none (.some (.tup []) (H.put id (.mp l'))) (and' ((gOf i).g L).ok ((gOf y).g L).ok)) (mput kd l ((gOf i).g L) ((gOf y).g L))) (H.mp id)) ((gOf x).g L).vm := by
  intro η base W ρ H w L a v H' hη hS hL h
  obtain ⟨id, h1, h2⟩ := vmres_some h
  obtain ⟨l, h3, h4⟩ := ores_some h2
  obtain ⟨l', h5, h6⟩ := ores_some h4
  obtain ⟨h7, h8⟩ := bres_some h6
  injection h8 with h8 h9
  subst h8
  subst h9
  rw [and'_eq, Bool.and_eq_true] at h7
  obtain ⟨i1, i2⟩ := (gOf_sound hL i).ok h7.1
  obtain ⟨v1, v2⟩ := (gOf_sound hL y).ok h7.2
  obtain ⟨td, htd⟩ : ∃ td, P.underlying kt = some td := by
    unfold leafK at hk
    cases hu : P.underlying kt with
    | none => rw [hu] at hk; cases hk
    | some td => exact ⟨td, rfl⟩
  obtain ⟨g5, g6⟩ := vm_tells (gOf_sound hL x) h1
  obtain ⟨g7, es, clock, g8, g9, g10⟩ := hS.mp g6 h3
  obtain ⟨m1, m2⟩ := mput_ok (η := η) htd hk i1 v1 l es.toList 0 l' g7 g9 h5
  have hget : (getObj (ρ.b id)).run P w = .ok (.map es clock) w := by simp [getObj, Sem.run, g8]
  have hop : execOp a.eval o = (do Instr.mapUpdate t (a.eval x) (a.eval i) (a.eval y); pure .skip) := by
    rcases ho with ho | ho <;> simp only [execOp, ho]
  rw [hop, g5, i2, v2]
  rcases m2 with ⟨j1, j2⟩ | ⟨j, e', j1, j2, j3, j4⟩
  · obtain ⟨w', r1, r2⟩ := hS.remap (P := P) (es := es.push { key := val ρ η ((gOf i).g L), val := val ρ η ((gOf y).g L), born := clock }) (clock := clock + 1) g6 h3 m1 (by simp [g9, j2]) g10.push
    refine ⟨ρ, w', .skip, ?_, .inr ⟨rfl, rfl⟩, Ext.refl _ _, r2, tup_nil, Nat.le_refl _⟩
    apply run_u
    simp only [Instr.mapUpdate, Sem.run_bind, run_underlying hu, Result.andThen_ok, Sem.run_pure, hget, run_checkKey hk, Instr.findKey, run_underlying htd, j1, r1]
  · obtain ⟨w', r1, r2⟩ := hS.remap (P := P) (es := es.modify j fun e => { e with key := val ρ η ((gOf i).g L), val := val ρ η ((gOf y).g L) }) (clock := clock) g6 h3 m1 (by rw [j4]; exact modify_pairs g9) g10.modify
    refine ⟨ρ, w', .skip, ?_, .inr ⟨rfl, rfl⟩, Ext.refl _ _, r2, tup_nil, Nat.le_refl _⟩
    apply run_u
    have hj : es[j]? = some e' := by simpa using j2
    rw [Nat.zero_add] at j1
    simp only [Instr.mapUpdate, Sem.run_bind, run_underlying hu, Result.andThen_ok, Sem.run_pure, hget, run_checkKey hk, Instr.findKey, run_underlying htd, j1, hj, Option.map_some, Option.getD_some, Instr.keyThatStays, j3, if_true, r1]
theorem clear_map {o : Oper} {c : Call} {x : Operand} {t k e : TypeId} (ho : o.op = .call c) (hc : c.callee = .builtin .clear) (ht : c.argTypes = #[t]) (hx : c.args = #[x]) (hu : P.underlying t = some (.map k e)) :
    TurnOk P o fun L H => VM.rec .none .none (fun id => Option.rec .none (fun _ => .some (.tup []) (H.put id (.mp []))) (H.mp id)) ((gOf x).g L).vm := by
  intro η base W ρ H w L a v H' hη hS hL h
  obtain ⟨id, h1, h2⟩ := vmres_some h
  obtain ⟨l, h3, h4⟩ := ores_some h2
  injection h4 with h8 h9
  subst h8
  subst h9
  obtain ⟨g5, g6⟩ := vm_tells (gOf_sound hL x) h1
  obtain ⟨g7, es, clock, g8, g9, g10⟩ := hS.mp g6 h3
  obtain ⟨w', r1, r2⟩ := hS.remap (P := P) (l' := []) (es := #[]) (clock := clock) g6 h3 (fun p hp => by cases hp) (by simp [pairs]) ⟨by simp, by simp⟩
  have hget : (getObj (ρ.b id)).run P w = .ok (.map es clock) w := by simp [getObj, Sem.run, g8]
  obtain ⟨cs, hcs⟩ := run_builtin (P := P) ho hc
  refine ⟨ρ, w', .value (.tuple #[]), ?_, .inl (by simp [val, vals]), Ext.refl _ _, r2, tup_nil, Nat.le_refl _⟩
  rw [hcs, ht, hx, map1]
  simp only [builtin]
  apply run_vw
  rw [g5]
  simp [Builtin.clear_, run_underlying hu, hget, r1]
theorem mdel_ok {kt : TypeId} {td : TypeDesc} {kd : LK} (hu : P.underlying kt = some td) (hk : leafK P kt = some kd) {k : AV} (hkw : Wf ρ nx k) :
    ∀ (l : List (AV × AV)) (es : List MapEntry) (i : Nat) (l' : List (AV × AV)), (∀ p ∈ l, Wf ρ nx p.1 ∧ Wf ρ nx p.2) → es.map (fun e => (e.key, e.val)) = pairs ρ η l → mdel kd l k = some l' →
      (∀ p ∈ l', Wf ρ nx p.1 ∧ Wf ρ nx p.2) ∧
      ((Instr.findNow td (val ρ η k) es i = some none ∧ pairs ρ η l' = pairs ρ η l) ∨
       ∃ j e, Instr.findNow td (val ρ η k) es i = some (some (i + j, e.val)) ∧ es[j]? = some e ∧ pairs ρ η l' = (pairs ρ η l).eraseIdx j)
  | [], es, i, l', hw, he, h => by
    have : es = [] := by simpa [pairs] using he
    subst this
    injection h with h
    subst h
    exact ⟨fun p hp => (by cases hp), .inl ⟨rfl, rfl⟩⟩
  | p :: l, es, i, l', hw, he, h => by
    obtain ⟨e, es, rfl, e1, e2, e3⟩ := pairs_cons he
    have h' : (Option.rec none (fun b => Bool.rec (Option.rec none (fun r => some (p :: r)) (mdel kd l k)) (some l) b) (eqK kd k p.1) : Option (List (AV × AV))) = some l' := h
    obtain ⟨b, h1, h2⟩ := oget_some h'
    have hs := same_ok (η := η) hu hk hkw (hw p (by simp)).1 h1
    cases b with
    | true =>
      injection h2 with h2
      subst h2
      exact ⟨fun q hq => hw q (by simp [hq]), .inr ⟨0, e, by simp only [Instr.findNow, e1, hs, Nat.add_zero], rfl, by simp [pairs]⟩⟩
    | false =>
      obtain ⟨r, h3, h4⟩ := oget_some h2
      injection h4 with h4
      subst h4
      obtain ⟨i1, i2⟩ := mdel_ok hu hk hkw l es (i + 1) r (fun q hq => hw q (by simp [hq])) e3 h3
      refine ⟨fun q hq => ?_, ?_⟩
      · rcases List.mem_cons.1 hq with rfl | hq
        · exact hw _ (by simp)
        · exact i1 q hq
      · rcases i2 with ⟨j1, j2⟩ | ⟨j, e', j1, j2, j4⟩
        · refine .inl ⟨by simp only [Instr.findNow, e1, hs]; exact j1, ?_⟩
          simp only [pairs, List.map_cons] at j2 ⊢
          rw [j2]
        · refine .inr ⟨j + 1, e', by simp only [Instr.findNow, e1, hs]; rw [j1, show i + (j + 1) = i + 1 + j by omega], j2, ?_⟩
          simp only [pairs, List.map_cons] at j4 ⊢
          rw [j4]; rfl
theorem map_erase {α β : Type} (f : α → β) : ∀ (l : List α) (j : Nat), (l.eraseIdx j).map f = (l.map f).eraseIdx j
  | [], _ => by simp
  | _ :: _, 0 => by simp
  | x :: l, j + 1 => by simp [map_erase f l j]
theorem Born.erase {es : Array MapEntry} {clock j : Nat} (h : Born es clock) : Born (es.eraseIdxIfInBounds j) clock := by
  have e : (es.eraseIdxIfInBounds j).toList = es.toList.eraseIdx j := by simp
  obtain ⟨h1, h2⟩ := h
  unfold Born
  rw [e]
  have hs : ((es.toList.eraseIdx j).map (·.born)).Sublist (es.toList.map (·.born)) := (List.eraseIdx_sublist _ _).map _
  exact ⟨fun b hb => h1 b (hs.subset hb), hs.nodup h2⟩
theorem delete_map {o : Oper} {c : Call} {x y : Operand} {t t' kt e : TypeId} {kd : LK} (ho : o.op = .call c) (hc : c.callee = .builtin .delete) (ht : c.argTypes = #[t, t']) (hx : c.args = #[x, y]) (hu : P.underlying t = some (.map kt e)) (hk : leafK P kt = some kd) :
    TurnOk P o fun L H => VM.rec .none .none (fun id => Option.rec .none (fun l => Option.rec .none (fun l' => Bool.rec .none (.some (.tup []) (H.put id (.mp l'))) ((gOf y).g L).ok) (mdel kd l ((gOf y).g L))) (H.mp id)) ((gOf x).g L).vm := by
  intro η base W ρ H w L a v H' hη hS hL h
  obtain ⟨id, h1, h2⟩ := vmres_some h
  obtain ⟨l, h3, h4⟩ := ores_some h2
  obtain ⟨l', h5, h6⟩ := ores_some h4
  obtain ⟨h7, h8⟩ := bres_some h6
  injection h8 with h8 h9
  subst h8
  subst h9
  obtain ⟨i1, i2⟩ := (gOf_sound hL y).ok h7
  obtain ⟨td, htd⟩ : ∃ td, P.underlying kt = some td := by
    unfold leafK at hk
    cases hu : P.underlying kt with
    | none => rw [hu] at hk; cases hk
    | some td => exact ⟨td, rfl⟩
  obtain ⟨g5, g6⟩ := vm_tells (gOf_sound hL x) h1
  obtain ⟨g7, es, clock, g8, g9, g10⟩ := hS.mp g6 h3
  obtain ⟨m1, m2⟩ := mdel_ok (η := η) htd hk i1 l es.toList 0 l' g7 g9 h5
  have hget : (getObj (ρ.b id)).run P w = .ok (.map es clock) w := by simp [getObj, Sem.run, g8]
  obtain ⟨cs, hcs⟩ := run_builtin (P := P) ho hc
  rcases m2 with ⟨j1, j2⟩ | ⟨j, e', j1, j2, j4⟩
  · obtain ⟨w', r1, r2⟩ := hS.remap (P := P) (es := es) (clock := clock) g6 h3 m1 (by rw [j2]; exact g9) g10
    refine ⟨ρ, w', .value (.tuple #[]), ?_, .inl (by simp [val, vals]), Ext.refl _ _, r2, tup_nil, Nat.le_refl _⟩
    rw [hcs, ht, hx, map2]
    simp only [builtin]
    apply run_vw
    rw [g5, i2]
    simp [Builtin.delete_, run_underlying hu, hget, run_checkKey hk, Instr.findKey, run_underlying htd, j1, r1]
  · obtain ⟨w', r1, r2⟩ := hS.remap (P := P) (es := es.eraseIdxIfInBounds j) (clock := clock) g6 h3 m1 (by rw [j4, ← g9, ← map_erase]; simp) g10.erase
    refine ⟨ρ, w', .value (.tuple #[]), ?_, .inl (by simp [val, vals]), Ext.refl _ _, r2, tup_nil, Nat.le_refl _⟩
    rw [hcs, ht, hx, map2]
    simp only [builtin]
    apply run_vw
    rw [g5, i2]
    rw [Nat.zero_add] at j1
    simp [Builtin.delete_, run_underlying hu, hget, run_checkKey hk, Instr.findKey, run_underlying htd, j1, r1]
end
end Go.Proofs.YtddcgoopgnogeaaGreatDoor.Ev
namespace Go.Proofs.YtddcgoopgnogeaaGreatDoor.Ev
open Go.RowKit (Below)
set_option linter.unusedVariables false
section
variable {P : Program} {η : Env} {base : Nat} {W w w' : World} {ρ : Ren} {H H' : Heap} {L : Loc} {a : Act} {nx : Nat}
theorem cell_heap (h : w'.heap = w.heap) (ad : Addr) : w'.cell? ad = w.cell? ad := by simp only [World.cell?, h]
/-- The cells that are appended or copied. -/
theorem elems_ok (hS : Sim η base W ρ H w) {es k : Nat} {x : AV} {v : Value} {l : List AV} (hx : Tells η ρ H.nx x v) (hk : lenOf x = some k) (he : elems H es x k = some l) :
    (∀ w', w'.heap = w.heap → (Builtin.lenOf v).run P w' = .ok k w' ∧ ∀ n, n ≤ k → (Builtin.firstCells es n v).run P w' = .ok ((l.take (n * es)).map (val ρ η)).toArray w') ∧
      l.length = k * es ∧ ∀ y ∈ l, Wf ρ H.nx y ∧ y.leaf = true := by
  rcases hS.elems hx he with ⟨rfl, rfl, rfl⟩ | ⟨ad, o, len, cap, rfl, hn, h1, h2, h3, h4⟩ | ⟨s, n, rfl, rfl, hs, rfl, rfl⟩
  · injection hk with hk
    subst hk
    exact ⟨fun w' _ => ⟨by simp [Builtin.lenOf], fun n hn => by simp [Builtin.firstCells]⟩, by simp, fun y hy => by cases hy⟩
  · have hlen : len = k := by
      unfold lenOf at hk
      split at hk
      · have := (hx.of (by simp)).2; simp only [val] at this; injection this with _ e; injection hk with hk; omega
      · have := (hx.of (by simp)).2; simp only [val] at this; injection this with _ e; injection hk with hk; omega
      · have := (hx.of (by simp)).2; simp only [val] at this; injection this with _ e; injection hk with hk; omega
      · exact absurd rfl (hn _ _)
      · cases hk
    subst hlen
    refine ⟨fun w' hw => ⟨by simp [Builtin.lenOf], fun n hnk => ?_⟩, h1, fun y hy => ⟨h3 y hy, h4 y hy⟩⟩
    have := run_cells (P := P) (w := w') (ad := ad) (o := o) (k := n * es) (l := (l.take (n * es)).map (val ρ η)) (by simp only [List.length_map, List.length_take, h1]; exact Nat.min_eq_left (Nat.mul_le_mul_right _ hnk)) (fun j u hj => by
      rw [cell_heap hw]
      refine h2 j u ?_
      rw [List.map_take, List.getElem?_take] at hj
      split at hj
      · exact hj
      · cases hj)
    simp only [Builtin.firstCells]
    exact this
  · injection hk with hk
    subst hk
    obtain ⟨b1, b2⟩ := strBytes_ok (ρ := ρ) (η := η) (nx := H.nx) s n
    have hl : (strBytes s n).length = s := by have := congrArg List.length b1; simpa using this
    rw [List.take_of_length_le (by omega)]
    refine ⟨fun w' hw => ⟨by simp [Builtin.lenOf, size_bytes], fun m hm => ?_⟩, by simp [hl], b2⟩
    rw [List.map_take, Nat.mul_one, b1]
    simp only [Builtin.firstCells]
    rw [Sem.run_pure]
    congr 1
    apply Array.ext'
    have : (ByteArray.extract ⟨(bytesOf s n).toArray⟩ 0 m).data.toList = (bytesOf s n).take m := by simp [List.extract_eq_take_drop]
    rw [Array.toList_map, this]
    simp [List.map_take]
/-- An append that has room. -/
theorem run_append_in {t u ty e : TypeId} {td : TypeDesc} {i : TypeInfo} (ht : P.underlying t = some (.slice e)) (hu : P.underlying u = some td) (hni : ∀ k, td ≠ .int k) (hi : P.info? e = some i)
    {ad o sLen sCap n : Nat} {x : Value} {new : Array Value} (h1 : (Builtin.lenOf x).run P w = .ok n w) (h2 : (Builtin.firstCells i.size n x).run P w = .ok new w) (hr : sLen + n ≤ sCap)
    (hs : (storeCells ⟨ad, o + sLen * i.size, none⟩ new.toList).run P w = .ok () w') :
    (Builtin.append_ #[t, u] ty #[.slice (some ⟨ad, o, none⟩) sLen sCap, x]).run P w = .ok (.slice (some ⟨ad, o, none⟩) (sLen + n) sCap) w' := by
  have hz : (match td with | .int _ => true | _ => false) = false := by cases td <;> first | rfl | exact absurd rfl (hni _)
  simp [Builtin.append_, run_underlying ht, run_underlying hu, sizeOf, typeInfo, hi, hz, h1, h2, hr, Addr.add_lit, hs]
/-- An append that has none. -/
theorem run_append_out {t u ty e : TypeId} {td : TypeDesc} {i : TypeInfo} {z : Value} (ht : P.underlying t = some (.slice e)) (hu : P.underlying u = some td) (hni : ∀ k, td ≠ .int k) (hi : P.info? e = some i) (hz : i.zero = some z)
    {b : Option Addr} {sLen sCap n : Nat} {x : Value} {old new : Array Value} (h1 : ∀ w', w'.heap = w.heap → (Builtin.lenOf x).run P w' = .ok n w' ∧ (Builtin.firstCells i.size n x).run P w' = .ok new w')
    (h2 : ∀ w', w'.heap = w.heap → (Builtin.firstCells i.size sLen (.slice b sLen sCap)).run P w' = .ok old w') (hr : sCap < sLen + n) (hs : (sLen + n) * (1 + i.bytes) ≤ 1000000000) :
    (Builtin.append_ #[t, u] ty #[.slice b sLen sCap, x]).run P w = .ok (.slice (some ⟨w.heap.size, 0, none⟩) (sLen + n) (grownCap w (sLen + n) sCap e))
      (w.drew.alloc (.cells (old ++ new ++ Builtin.zeroCells z.cells (grownCap w (sLen + n) sCap e - (sLen + n))) e)) := by
  have hzz : (match td with | .int _ => true | _ => false) = false := by cases td <;> first | rfl | exact absurd rfl (hni _)
  have hb : sLen + n ≤ (sLen + n) * (1 + i.bytes) := Nat.le_mul_of_pos_right _ (by omega)
  have hb2 : (sLen + n) * i.bytes ≤ (sLen + n) * (1 + i.bytes) := Nat.mul_le_mul_left _ (by omega)
  have hg := growslice_fits (bytes := i.bytes) hr (by omega)
  have hg' : ¬ (281474976710656 < Builtin.nextslicecap (sLen + n) sCap * i.bytes) := by omega
  have h63 : ¬ (9223372036854775807 < ((sLen : Int) + (n : Int))) := by omega
  have hn : ¬ (sLen + n ≤ sCap) := by omega
  have e1 := h1 w rfl
  have e2 := h1 w.drew rfl
  have e3 := h2 w.drew rfl
  simp [Builtin.append_, run_underlying ht, run_underlying hu, sizeOf, typeInfo, zeroValue, hi, hz, hzz, e1, hn, h63, hg', Question.forced, e2, e3, newRow, grownCap]
end
end Go.Proofs.YtddcgoopgnogeaaGreatDoor.Ev
namespace Go.Proofs.YtddcgoopgnogeaaGreatDoor.Ev
open Go.RowKit (Below)
set_option linter.unusedVariables false
section
variable {P : Program} {η : Env} {base : Nat} {W w w' : World} {ρ : Ren} {H H' : Heap} {L : Loc} {a : Act} {nx : Nat}
theorem size_zero {z : Array Value} (n : Nat) : (Builtin.zeroCells z n).size = n * z.size := by simp [Builtin.zeroCells]
/-- What an append yields. -/
def AppOk (P : Program) (η : Env) (base : Nat) (W : World) (ρ : Ren) (H : Heap) (w : World) (t u ty : TypeId) (sv xv : Value) (v : AV) (H' : Heap) : Prop :=
  ∃ ρ' w', (Builtin.append_ #[t, u] ty #[sv, xv]).run P w = .ok (val ρ' η v) w' ∧ Ext ρ ρ' H.nx ∧ Sim η base W ρ' H' w' ∧ Wf ρ' H'.nx v ∧ H.nx ≤ H'.nx
/-- A row that has grown. -/
theorem append_out {t u ty e : TypeId} {td : TypeDesc} {i : TypeInfo} {z : Value} (hz1 : i.size ≠ 0) (ht : P.underlying t = some (.slice e)) (hu : P.underlying u = some td) (hni : ∀ k, td ≠ .int k) (hi : P.info? e = some i) (hz : i.zero = some z) (hzs : z.cells.size = i.size)
    (hS : Sim η base W ρ H w) {b : Option Addr} {sLen sCap n : Nat} {x : Value} {old new : List AV}
    (h1 : ∀ w', w'.heap = w.heap → (Builtin.lenOf x).run P w' = .ok n w' ∧ (Builtin.firstCells i.size n x).run P w' = .ok (new.map (val ρ η)).toArray w')
    (h2 : ∀ w', w'.heap = w.heap → (Builtin.firstCells i.size sLen (.slice b sLen sCap)).run P w' = .ok (old.map (val ρ η)).toArray w') (hr : sCap < sLen + n) (hs : (sLen + n) * (1 + i.bytes) ≤ 1000000000)
    (ho : old.length = sLen * i.size) (hn : new.length = n * i.size) (hw : ∀ y ∈ old ++ new, Wf ρ H.nx y ∧ y.leaf = true)
    {v : AV} (h : openRow H e i.size (old ++ new) (sLen + n) = .some v H') : AppOk P η base W ρ H w t u ty (.slice b sLen sCap) x v H' := by
  obtain ⟨h3, rfl⟩ := box1_some h
  have hge : sLen + n ≤ grownCap w (sLen + n) sCap e := grownCap_ge _ _ _ _
  have hlen : (old ++ new).length = (sLen + n) * i.size := by rw [List.length_append, ho, hn, Nat.add_mul]
  have hsz : ((old.map (val ρ η)).toArray ++ (new.map (val ρ η)).toArray ++ Builtin.zeroCells z.cells (grownCap w (sLen + n) sCap e - (sLen + n))).size = grownCap w (sLen + n) sCap e * i.size := by
    simp only [Array.size_append, List.size_toArray, List.length_map, size_zero, hzs, ho, hn, ← Nat.add_mul]
    congr 1
    omega
  obtain ⟨k1, k2, k3⟩ := hS.alloc (w' := w.drew.alloc (.cells ((old.map (val ρ η)).toArray ++ (new.map (val ρ η)).toArray ++ Builtin.zeroCells z.cells (grownCap w (sLen + n) sCap e - (sLen + n))) e)) (c := grownCap w (sLen + n) sCap e)
    (fr := (0, 0)) h3 hw (fun j y hj => by
      have hj' : ((old.map (val ρ η)).toArray ++ (new.map (val ρ η)).toArray)[j]? = some (val ρ η y) := by
        have : (old.map (val ρ η)).toArray ++ (new.map (val ρ η)).toArray = ((old ++ new).map (val ρ η)).toArray := by simp
        rw [this]; exact arr_get hj
      rw [Array.getElem?_append_left (Array.getElem?_eq_some_iff.1 hj').1]
      exact hj') (by rw [hsz, hlen]; exact Nat.mul_le_mul_right _ hge) (by rw [hsz]; exact Nat.le_refl _) (.inl (by simp)) rfl rfl rfl rfl (fun h0 => absurd h0 hz1)
  refine ⟨_, _, ?_, k1, k2, .slo (by omega) (by simp [Ren.new]; exact hge), by omega⟩
  rw [run_append_out ht hu hni hi hz h1 h2 hr hs]
  simp [val, Ren.new]
/-- A known row that has room. -/
theorem append_in {t u ty e : TypeId} {td : TypeDesc} {i : TypeInfo} (hη : Leaves η) (ht : P.underlying t = some (.slice e)) (hu : P.underlying u = some td) (hni : ∀ k, td ≠ .int k) (hi : P.info? e = some i)
    (hS : Sim η base W ρ H w) {id off l c n : Nat} {x : Value} {new : List AV}
    (h1 : (Builtin.lenOf x).run P w = .ok n w ∧ (Builtin.firstCells i.size n x).run P w = .ok (new.map (val ρ η)).toArray w) (hw : ∀ y ∈ new, Wf ρ H.nx y ∧ y.leaf = true) (hid : id < H.nx)
    (hr : l + n ≤ c) (h : H.sets id (off + l * i.size) new = some H') : AppOk P η base W ρ H w t u ty (val ρ η (.sl id off l c)) x (.sl id off (l + n) c) H' := by
  obtain ⟨w', r1, r2, r3⟩ := hS.sets (P := P) hη hid h hw
  refine ⟨ρ, w', ?_, Ext.refl _ _, r2, .sl (by omega) hr, by omega⟩
  simp only [val]
  exact run_append_in ht hu hni hi h1.1 h1.2 hr (by rw [Nat.add_assoc]; exact r1)
end
end Go.Proofs.YtddcgoopgnogeaaGreatDoor.Ev
namespace Go.Proofs.YtddcgoopgnogeaaGreatDoor.Ev
open Go.RowKit (Below)
set_option linter.unusedVariables false
/-- A row that has just these cells. -/
def Reads (o : Ob) (el es : Nat) (l : List AV) : Prop := ∃ d t, o = .row el es l.length d t ∧ l.length ≤ 2 ^ d ∧ ∀ i, i < l.length → t.getN d i = l[i]?
theorem rowOf_reads (el es : Nat) (l : List AV) : Reads (rowOf el es l) el es l := by
  refine ⟨depth (len l), trOf (depth (len l)) l, by rw [rowOf, len_eq], ?_, fun i hi => ?_⟩
  · rw [len_eq]; exact Nat.le_of_lt (lt_depth _)
  · rw [len_eq]; exact trOf_get _ _ (Nat.le_of_lt (lt_depth _)) hi
/-- Cells laid behind the first ones. -/
theorem lay_reads {el es n d : Nat} {t : Tr AV} {off : Nat} {new old : List AV} {o' : Ob} (hn : n ≤ 2 ^ d) (h : Ob.lay new off (.row el es n d t) = some o') (hg : Ob.gets off 0 (.row el es n d t) = some old) : Reads o' el es (old ++ new) := by
  have h' : (Bool.rec none (Bool.rec (Option.rec none (fun old => some (rowOf el es (app' old new))) (Ob.gets off 0 (.row el es n d t)))
        (some (.row el es (Nat.add off (len new)) d (List.rec (fun _ t => t) (fun v _ ih i t => ih (Nat.succ i) (t.putN v d i)) new off t)))
        (Nat.ble (Nat.add off (len new)) (Nat.pow 2 d))) (Nat.ble off n) : Option Ob) = some o' := h
  obtain ⟨h1, h2⟩ := brec_some h' (by simp)
  obtain ⟨g1, g2⟩ := Ob.gets_some hg
  cases hb : Nat.ble (Nat.add off (len new)) (Nat.pow 2 d) with
  | false =>
    rw [hb] at h2
    have h2 : (Option.rec none (fun old => some (rowOf el es (app' old new))) (Ob.gets off 0 (.row el es n d t)) : Option Ob) = some o' := h2
    rw [hg] at h2
    injection h2 with h2
    rw [← h2, app'_eq]
    exact rowOf_reads _ _ _
  | true =>
    rw [hb] at h2
    injection h2 with h2
    have hb : off + new.length ≤ 2 ^ d := by have := Nat.le_of_ble_eq_true hb; rwa [len_eq] at this
    obtain ⟨p1, p2⟩ := put_list new d off t hb
    refine ⟨d, _, by rw [← h2, len_eq, List.length_append, g1]; rfl, by rw [List.length_append, g1]; exact hb, fun i hi => ?_⟩
    rw [List.length_append, g1] at hi
    by_cases ho : i < off
    · rw [p2 i ho, List.getElem?_append_left (by omega)]
      have hx : old[i]? = some old[i] := List.getElem?_eq_getElem (by omega)
      have := g2 i _ hx
      obtain ⟨_, _, _, _, _, e1, e2, e3⟩ := Ob.get_some this
      injection e1 with e4 e5 e6 e7 e8
      subst e7
      subst e8
      rw [hx, ← e3, Nat.zero_add]
    · have := p1 (i - off) (by omega)
      rw [show off + (i - off) = i by omega] at this
      rw [this, List.getElem?_append_right (by omega), g1]
section
variable {P : Program} {η : Env} {base : Nat} {W w w' : World} {ρ : Ren} {H H' : Heap} {L : Loc} {a : Act} {nx : Nat}
theorem reads_ok {el es id : Nat} {l : List AV} {o : Ob} (ho : Reads o el es l) {cs : Array Value} {fr : Nat × Nat} (hw : ∀ x ∈ l, Wf ρ nx x ∧ x.leaf = true) (hb : w.heap[ρ.b id]? = some (.cells cs el fr))
    (hc : ∀ (j : Nat) (x : AV), l[j]? = some x → cs[ρ.d id + j]? = some (val ρ η x)) (hn : ρ.d id + l.length ≤ cs.size) (hr : ρ.d id + ρ.c id * es ≤ cs.size)
    (hf : fr.2 ≤ fr.1 ∨ (ρ.d id + l.length ≤ fr.1 ∧ ρ.d id + ρ.c id * es ≤ fr.1)) (hv : es ≠ 0) : ObOk ρ η nx w id o := by
  obtain ⟨d, t, rfl, h1, h2⟩ := ho
  show RowOk ρ η nx w id el es l.length d t
  refine ⟨⟨h1, fun h0 => absurd h0 hv⟩, cs, fr, hb, hn, hr, hf, fun i hi => ?_⟩
  have hx : l[i]? = some l[i] := List.getElem?_eq_getElem hi
  have hm : l[i] ∈ l := List.getElem_mem hi
  exact ⟨l[i], by rw [h2 i hi, hx], (hw _ hm).1, (hw _ hm).2, hc i _ hx⟩
/-- Cells of a block that are written one by one. -/
theorem setCells_row (b el : Nat) (fr : Nat × Nat) : ∀ (vs : List Value) (off : Nat) (w : World) (cs : Array Value), w.heap[b]? = some (.cells cs el fr) → off + vs.length ≤ cs.size →
    ∃ cs', (w.setCells b off vs).heap[b]? = some (.cells cs' el fr) ∧ cs'.size = cs.size ∧ (∀ j, j < off → cs'[j]? = cs[j]?) ∧ (∀ j, j < vs.length → cs'[off + j]? = vs[j]?) ∧
      (∀ k, k ≠ b → (w.setCells b off vs).heap[k]? = w.heap[k]?) ∧ (w.setCells b off vs).heap.size = w.heap.size ∧ (w.setCells b off vs).os = w.os ∧ (w.setCells b off vs).tape = w.tape ∧ (w.setCells b off vs).output = w.output
  | [], off, w, cs, h, hl => ⟨cs, h, rfl, fun _ _ => rfl, fun j hj => by simp at hj, fun _ _ => rfl, rfl, rfl, rfl, rfl⟩
  | v :: vs, off, w, cs, h, hl => by
    simp only [List.length_cons] at hl
    have hcell : (w.setCell ⟨b, off, none⟩ v).heap[b]? = some (.cells (cs.setIfInBounds off v) el fr) := by
      simp only [World.setCell, Array.getElem?_modify, if_true, h, Option.map_some]
      rfl
    obtain ⟨cs', h1, h2, h3, h4, h5, h6, h7, h8, h9⟩ := setCells_row b el fr vs (off + 1) (w.setCell ⟨b, off, none⟩ v) _ hcell (by simp; omega)
    refine ⟨cs', h1, by simpa using h2, fun j hj => ?_, fun j hj => ?_, fun k hk => ?_, ?_, h7, h8, h9⟩
    · rw [h3 j (by omega), Array.getElem?_setIfInBounds_ne (by omega)]
    · cases j with
      | zero =>
        rw [Nat.add_zero, h3 off (by omega), Array.getElem?_setIfInBounds_self]
        simp
        omega
      | succ j =>
        rw [show off + (j + 1) = off + 1 + j by omega, h4 j (by simpa using hj)]
        simp
    · rw [show w.setCells b off (v :: vs) = (w.setCell ⟨b, off, none⟩ v).setCells b (off + 1) vs from rfl, h5 k hk]
      simp only [World.setCell, Array.getElem?_modify]
      rw [if_neg (by omega)]
    · rw [show w.setCells b off (v :: vs) = (w.setCell ⟨b, off, none⟩ v).setCells b (off + 1) vs from rfl, h6]
      simp [World.setCell]
end
end Go.Proofs.YtddcgoopgnogeaaGreatDoor.Ev
namespace Go.Proofs.YtddcgoopgnogeaaGreatDoor.Ev
open Go.RowKit (Below)
set_option linter.unusedVariables false
section
variable {P : Program} {η : Env} {base : Nat} {W w w' : World} {ρ : Ren} {H H' : Heap} {L : Loc} {a : Act} {nx : Nat}
/-- A new block, and a row that reads its first cells. -/
theorem Sim.allocR (h : Sim η base W ρ H w) {el es c : Nat} {l : List AV} {o : Ob} {cs : Array Value} {fr : Nat × Nat} (hn : H.new o = some H') (hrd : Reads o el es l) (hw : ∀ x ∈ l, Wf ρ H.nx x ∧ x.leaf = true)
    (hc : ∀ (j : Nat) (x : AV), l[j]? = some x → cs[j]? = some (val ρ η x)) (hl : l.length ≤ cs.size) (hr : c * es ≤ cs.size) (hf : fr.2 ≤ fr.1 ∨ (l.length ≤ fr.1 ∧ c * es ≤ fr.1))
    (hd : w'.heap = w.heap.push (.cells cs el fr)) (h1 : w'.os = w.os) (h2 : w'.tape = w.tape) (h3 : w'.output = w.output) (hv : es ≠ 0) :
    Ext ρ (ρ.new H.nx w.heap.size 0 c) H.nx ∧ Sim η base W (ρ.new H.nx w.heap.size 0 c) H' w' ∧ H'.nx = H.nx + 1 := by
  have he := Ren.new_ext ρ H.nx w.heap.size 0 c
  have eb : (ρ.new H.nx w.heap.size 0 c).b H.nx = w.heap.size := by simp [Ren.new]
  have ed : (ρ.new H.nx w.heap.size 0 c).d H.nx = 0 := by simp [Ren.new]
  have ec : (ρ.new H.nx w.heap.size 0 c).c H.nx = c := by simp [Ren.new]
  refine h.new hn h.hb (fun i oi hi hoi => ?_) (fun k hk hk' => ?_) (by rw [hd]; simp) h1 h2 h3 ?_
  · have := (h.ob i oi hi hoi).2.lt
    omega
  · rw [hd, Array.getElem?_push, if_neg (by omega)]
  · refine reads_ok hrd (cs := cs) (fr := fr) (fun x hx => ⟨((hw x hx).1.ext η he (by omega)).1, (hw x hx).2⟩) ?_ ?_ ?_ ?_ ?_ hv
    · rw [eb, hd]; simp
    · intro j x hj
      rw [ed, Nat.zero_add, ((hw x (List.mem_of_getElem? hj)).1.ext (nx' := H.nx + 1) η he (by omega)).2]
      exact hc j x hj
    · rw [ed]; omega
    · rw [ed, ec]; omega
    · rw [ed, ec]; simpa using hf
theorem append_outR {t u ty e : TypeId} {td : TypeDesc} {i : TypeInfo} {z : Value} (hz1 : i.size ≠ 0) (ht : P.underlying t = some (.slice e)) (hu : P.underlying u = some td) (hni : ∀ k, td ≠ .int k) (hi : P.info? e = some i) (hz : i.zero = some z) (hzs : z.cells.size = i.size)
    (hS : Sim η base W ρ H w) {b : Option Addr} {sLen sCap n : Nat} {x : Value} {old new : List AV} {o : Ob} (hrd : Reads o e i.size (old ++ new))
    (h1 : ∀ w', w'.heap = w.heap → (Builtin.lenOf x).run P w' = .ok n w' ∧ (Builtin.firstCells i.size n x).run P w' = .ok (new.map (val ρ η)).toArray w')
    (h2 : ∀ w', w'.heap = w.heap → (Builtin.firstCells i.size sLen (.slice b sLen sCap)).run P w' = .ok (old.map (val ρ η)).toArray w') (hr : sCap < sLen + n) (hs : (sLen + n) * (1 + i.bytes) ≤ 1000000000)
    (ho : old.length = sLen * i.size) (hn : new.length = n * i.size) (hw : ∀ y ∈ old ++ new, Wf ρ H.nx y ∧ y.leaf = true)
    {v : AV} (h : box1 H o (.slo H.nx 0 (sLen + n) i.size) = .some v H') : AppOk P η base W ρ H w t u ty (.slice b sLen sCap) x v H' := by
  obtain ⟨h3, rfl⟩ := box1_some h
  have hge : sLen + n ≤ grownCap w (sLen + n) sCap e := grownCap_ge _ _ _ _
  have hlen : (old ++ new).length = (sLen + n) * i.size := by rw [List.length_append, ho, hn, Nat.add_mul]
  have hsz : ((old.map (val ρ η)).toArray ++ (new.map (val ρ η)).toArray ++ Builtin.zeroCells z.cells (grownCap w (sLen + n) sCap e - (sLen + n))).size = grownCap w (sLen + n) sCap e * i.size := by
    simp only [Array.size_append, List.size_toArray, List.length_map, size_zero, hzs, ho, hn, ← Nat.add_mul]
    congr 1
    omega
  obtain ⟨k1, k2, k3⟩ := hS.allocR (w' := w.drew.alloc (.cells ((old.map (val ρ η)).toArray ++ (new.map (val ρ η)).toArray ++ Builtin.zeroCells z.cells (grownCap w (sLen + n) sCap e - (sLen + n))) e)) (c := grownCap w (sLen + n) sCap e)
    (fr := (0, 0)) h3 hrd hw (fun j y hj => by
      have hj' : ((old.map (val ρ η)).toArray ++ (new.map (val ρ η)).toArray)[j]? = some (val ρ η y) := by
        have : (old.map (val ρ η)).toArray ++ (new.map (val ρ η)).toArray = ((old ++ new).map (val ρ η)).toArray := by simp
        rw [this]; exact arr_get hj
      rw [Array.getElem?_append_left (Array.getElem?_eq_some_iff.1 hj').1]
      exact hj') (by rw [hsz, hlen]; exact Nat.mul_le_mul_right _ hge) (by rw [hsz]; exact Nat.le_refl _) (.inl (by simp)) rfl rfl rfl rfl hz1
  refine ⟨_, _, ?_, k1, k2, .slo (by omega) (by simp [Ren.new]; exact hge), by omega⟩
  rw [run_append_out ht hu hni hi hz h1 h2 hr hs]
  simp [val, Ren.new]
/-- A row whose room nobody knows has some. -/
theorem append_room {t u ty e : TypeId} {td : TypeDesc} {i : TypeInfo} (hz1 : i.size ≠ 0) (hη : Leaves η) (ht : P.underlying t = some (.slice e)) (hu : P.underlying u = some td) (hni : ∀ k, td ≠ .int k) (hi : P.info? e = some i)
    (hS : Sim η base W ρ H w) {id eo l k n d : Nat} {tr : Tr AV} {x : Value} {old new : List AV} {o' : Ob} (hid : id < H.nx) (hob : H.ob id = some (.row e i.size n d tr)) (hg : (Ob.row e i.size n d tr).gets (l * i.size) (eo * i.size) = some old)
    (hrd : Reads o' e i.size (old ++ new)) (h1 : (Builtin.lenOf x).run P w = .ok k w ∧ (Builtin.firstCells i.size k x).run P w = .ok (new.map (val ρ η)).toArray w) (hnl : new.length = k * i.size) (hw : ∀ y ∈ new, Wf ρ H.nx y ∧ y.leaf = true)
    (hcap : eo + l ≤ ρ.c id) (hr : l + k ≤ ρ.c id - eo) {v : AV} (h : box1 (H.del id) o' (.slo H.nx 0 (l + k) i.size) = .some v H') : AppOk P η base W ρ H w t u ty (val ρ η (.slo id eo l i.size)) x v H' := by
  obtain ⟨h3, rfl⟩ := box1_some h
  obtain ⟨hb, hrow⟩ := hS.ob id _ hid hob
  have hrow : RowOk ρ η H.nx w id e i.size n d tr := hrow
  obtain ⟨⟨q1, -⟩, cs, fr, q2, q3, q4, q5, q6⟩ := hrow
  obtain ⟨g1, g2⟩ := Ob.gets_some hg
  have hce : ρ.c id = eo + (ρ.c id - eo) := by omega
  have hcs : ρ.c id * i.size = eo * i.size + (ρ.c id - eo) * i.size := by rw [← Nat.add_mul, ← hce]
  have hlk : l * i.size + k * i.size ≤ (ρ.c id - eo) * i.size := by rw [← Nat.add_mul]; exact Nat.mul_le_mul_right _ hr
  have hvl : (new.map (val ρ η)).length = k * i.size := by simp [hnl]
  obtain ⟨cs', s1, s2, s3, s4, s5, s6, s7, s8, s9⟩ := setCells_row (ρ.b id) e fr (new.map (val ρ η)) (ρ.d id + eo * i.size + l * i.size) w cs q2 (by rw [hvl]; omega)
  have hrun := run_storeCells_cells (P := P) (ρ.b id) (ρ.d id + eo * i.size + l * i.size) (new.map (val ρ η)) 0 w (fun j hj => by
      rw [hvl] at hj
      simp only [World.cell?, q2, Nat.add_zero]
      rw [Array.getElem?_eq_getElem (by omega)]
      simp) (fun j hj => by
      rw [hvl] at hj
      simp only [World.frozen?, q2]
      obtain ⟨lo, hi⟩ := fr
      simp only at q5 ⊢
      rcases q5 with q5 | ⟨_, q5⟩
      · rw [Bool.and_eq_false_iff]; simp only [decide_eq_false_iff_not]; omega
      · rw [Bool.and_eq_false_iff]; simp only [decide_eq_false_iff_not]; omega)
    (fun v hv => by
      obtain ⟨y, hy, rfl⟩ := List.mem_map.1 hv
      exact (leaf_one hη (hw y hy).1 (hw y hy).2).1)
  have hold : ∀ j y, old[j]? = some y → cs[ρ.d id + eo * i.size + j]? = some (val ρ η y) ∧ Wf ρ H.nx y ∧ y.leaf = true := fun j y hj => by
    obtain ⟨_, _, _, _, _, e1, e2, e3⟩ := Ob.get_some (g2 j y hj)
    injection e1 with e4 e5 e6 e7 e8
    subst e6 e7 e8
    obtain ⟨y', m1, m2, m3, m4⟩ := q6 _ e2
    rw [e3] at m1
    injection m1 with m1
    subst m1
    exact ⟨by rw [Nat.add_assoc]; exact m4, m2, m3⟩
  have he := Ren.new_ext ρ H.nx (ρ.b id) (ρ.d id + eo * i.size) (ρ.c id - eo)
  have eb : (ρ.new H.nx (ρ.b id) (ρ.d id + eo * i.size) (ρ.c id - eo)).b H.nx = ρ.b id := by simp [Ren.new]
  have ed : (ρ.new H.nx (ρ.b id) (ρ.d id + eo * i.size) (ρ.c id - eo)).d H.nx = ρ.d id + eo * i.size := by simp [Ren.new]
  have ec : (ρ.new H.nx (ρ.b id) (ρ.d id + eo * i.size) (ρ.c id - eo)).c H.nx = ρ.c id - eo := by simp [Ren.new]
  have hlen : (old ++ new).length = l * i.size + k * i.size := by rw [List.length_append, g1, hnl]
  have hlt := hS.lt
  obtain ⟨k1, k2, k3⟩ : Ext ρ (ρ.new H.nx (ρ.b id) (ρ.d id + eo * i.size) (ρ.c id - eo)) H.nx ∧ Sim η base W (ρ.new H.nx (ρ.b id) (ρ.d id + eo * i.size) (ρ.c id - eo)) H' (w.setCells (ρ.b id) (ρ.d id + eo * i.size + l * i.size) (new.map (val ρ η))) ∧ H'.nx = H.nx + 1 := by
    refine (hS.del hid).new h3 hb (fun j oj hj hoj => ?_) (fun m hm hm' => s5 m hm) (by rw [s6]; exact Nat.le_refl _) s7 s8 s9 ?_
    · have hj : j < H.nx := hj
      by_cases hij : id = j
      · subst hij; rw [Heap.ob_del_same] at hoj; cases hoj
      · rw [Heap.ob_del_ne _ _ _ (by omega) (by omega) hij] at hoj
        exact fun hbb => hij (hS.inj j id _ _ hj hid hoj hob hbb).symm
    · refine reads_ok hrd (cs := cs') (fr := fr) (fun y hy => ?_) ?_ ?_ ?_ ?_ ?_ hz1
      · rcases List.mem_append.1 hy with hy | hy
        · obtain ⟨j, hj⟩ := List.mem_iff_getElem?.1 hy
          exact ⟨((hold j y hj).2.1.ext η he (by show H.nx ≤ H.nx + 1; omega)).1, (hold j y hj).2.2⟩
        · exact ⟨((hw y hy).1.ext η he (by show H.nx ≤ H.nx + 1; omega)).1, (hw y hy).2⟩
      · show (w.setCells _ _ _).heap[(ρ.new H.nx (ρ.b id) (ρ.d id + eo * i.size) (ρ.c id - eo)).b H.nx]? = _
        rw [eb]; exact s1
      · intro j y hj
        show cs'[(ρ.new H.nx (ρ.b id) (ρ.d id + eo * i.size) (ρ.c id - eo)).d H.nx + j]? = some (val (ρ.new H.nx (ρ.b id) (ρ.d id + eo * i.size) (ρ.c id - eo)) η y)
        rw [ed]
        by_cases hjl : j < old.length
        · rw [List.getElem?_append_left hjl] at hj
          obtain ⟨m1, m2, m3⟩ := hold j y hj
          rw [(m2.ext (nx' := H.nx + 1) η he (by omega)).2, s3 _ (by omega), m1]
        · rw [List.getElem?_append_right (by omega)] at hj
          have hm := List.mem_of_getElem? hj
          rw [((hw y hm).1.ext (nx' := H.nx + 1) η he (by omega)).2, show ρ.d id + eo * i.size + j = ρ.d id + eo * i.size + l * i.size + (j - old.length) by omega,
            s4 _ (by rw [hvl]; have := (List.getElem?_eq_some_iff.1 hj).1; omega)]
          simp [hj]
      · show (ρ.new H.nx (ρ.b id) (ρ.d id + eo * i.size) (ρ.c id - eo)).d H.nx + _ ≤ _
        rw [ed, hlen, s2]; omega
      · show (ρ.new H.nx (ρ.b id) (ρ.d id + eo * i.size) (ρ.c id - eo)).d H.nx + (ρ.new H.nx (ρ.b id) (ρ.d id + eo * i.size) (ρ.c id - eo)).c H.nx * _ ≤ _
        rw [ed, ec, s2]; omega
      · show _ ∨ ((ρ.new H.nx (ρ.b id) (ρ.d id + eo * i.size) (ρ.c id - eo)).d H.nx + _ ≤ _ ∧ (ρ.new H.nx (ρ.b id) (ρ.d id + eo * i.size) (ρ.c id - eo)).d H.nx + (ρ.new H.nx (ρ.b id) (ρ.d id + eo * i.size) (ρ.c id - eo)).c H.nx * _ ≤ _)
        rw [ed, ec, hlen]
        rcases q5 with q5 | ⟨_, q5⟩
        · exact .inl q5
        · exact .inr (by omega)
  refine ⟨_, _, ?_, k1, k2, .slo (by omega) (by rw [ec]; omega), by omega⟩
  have := run_append_in (ty := ty) (w' := w.setCells (ρ.b id) (ρ.d id + eo * i.size + l * i.size) (new.map (val ρ η))) ht hu hni hi h1.1 h1.2 hr hrun
  simp only [val, eb, ed, ec]
  rw [this]
  simp
end
end Go.Proofs.YtddcgoopgnogeaaGreatDoor.Ev
namespace Go.Proofs.YtddcgoopgnogeaaGreatDoor.Ev
open Go.RowKit (Below)
set_option linter.unusedVariables false
section
variable {P : Program} {η : Env} {base : Nat} {W w w' : World} {ρ : Ren} {H H' : Heap} {L : Loc} {a : Act} {nx : Nat}
theorem Ob.ofs_some {el es : Nat} {o : Ob} (h : o.ofs el es = true) : ∃ n d t, o = .row el es n d t := by
  cases o with
  | row el' es' n d t =>
    have h' : and' (Nat.beq el' el) (Nat.beq es' es) = true := h
    rw [and'_eq, Bool.and_eq_true] at h'
    obtain rfl := Nat.eq_of_beq_eq_true h'.1
    obtain rfl := Nat.eq_of_beq_eq_true h'.2
    exact ⟨n, d, t, rfl⟩
  | mp l => cases h
theorem gets_row {el es n d : Nat} {t : Tr AV} (h : ∀ i, i < n → ∃ x, t.getN d i = some x) : ∀ (k off : Nat), off + k ≤ n → ∃ l, Ob.gets k off (.row el es n d t) = some l
  | 0, off, _ => ⟨[], rfl⟩
  | k + 1, off, hk => by
    obtain ⟨x, hx⟩ := h off (by omega)
    obtain ⟨l, hl⟩ := gets_row h k (off + 1) (by omega)
    have hg : Ob.get off (.row el es n d t) = some x := by
      show (Bool.rec none (t.getN d off) (Nat.ble (Nat.succ off) n) : Option AV) = some x
      rw [Nat.ble_eq_true_of_le (by show off + 1 ≤ n; omega)]
      exact hx
    refine ⟨x :: l, ?_⟩
    show (Option.rec none (fun v => Option.rec none (fun l => some (v :: l)) (Ob.gets k (off + 1) (.row el es n d t))) (Ob.get off (.row el es n d t)) : Option (List AV)) = _
    rw [hg, hl]
theorem lay_le {el es n d : Nat} {t : Tr AV} {off : Nat} {new : List AV} {o' : Ob} (h : Ob.lay new off (.row el es n d t) = some o') : off ≤ n := by
  have h' : (Bool.rec none (Bool.rec (Option.rec none (fun old => some (rowOf el es (app' old new))) (Ob.gets off 0 (.row el es n d t)))
        (some (.row el es (Nat.add off (len new)) d (List.rec (fun _ t => t) (fun v _ ih i t => ih (Nat.succ i) (t.putN v d i)) new off t)))
        (Nat.ble (Nat.add off (len new)) (Nat.pow 2 d))) (Nat.ble off n) : Option Ob) = some o' := h
  exact Nat.le_of_ble_eq_true (brec_some h' (by simp)).1
theorem Sim.cells_run (h : Sim η base W ρ H w) {id off k : Nat} {l : List AV} (hid : id < H.nx) (hx : H.cells id off k = some l) {es n : Nat} (hk : k = n * es) (len cap : Nat) :
    ∀ w', w'.heap = w.heap → (Builtin.firstCells es n (.slice (some ⟨ρ.b id, ρ.d id + off, none⟩) len cap)).run P w' = .ok (l.map (val ρ η)).toArray w' := by
  obtain ⟨h1, h2, h3, h4⟩ := h.cells hid hx
  intro w' hw
  simp only [Builtin.firstCells]
  exact run_cells (by simp [h1, hk]) fun j u hj => by rw [cell_heap hw]; exact h2 j u hj
theorem appendA_ok {t u ty e : TypeId} {td : TypeDesc} {i : TypeInfo} {z : Value} (hz1 : i.size ≠ 0) (hη : Leaves η) (ht : P.underlying t = some (.slice e)) (hu : P.underlying u = some td) (hni : ∀ k, td ≠ .int k) (hi : P.info? e = some i) (hz : i.zero = some z) (hzs : z.cells.size = i.size)
    (hS : Sim η base W ρ H w) {s x : AV} {sv xv : Value} (hs : Tells η ρ H.nx s sv) (hx : Tells η ρ H.nx x xv) (hfit : fitsA i.bytes s x = true) {v : AV} (h : appendA e i.size H s x = .some v H') : AppOk P η base W ρ H w t u ty sv xv v H' := by
  unfold appendA at h
  obtain ⟨k, hk, h⟩ := ores_some h
  obtain ⟨new, hnew, h⟩ := ores_some h
  obtain ⟨r1, r2, r3⟩ := elems_ok (P := P) hS hx hk hnew
  have r0 : ∀ w', w'.heap = w.heap → (Builtin.lenOf xv).run P w' = .ok k w' ∧ (Builtin.firstCells i.size k xv).run P w' = .ok (new.map (val ρ η)).toArray w' := fun w' hw => by
    refine ⟨(r1 w' hw).1, ?_⟩
    have := (r1 w' hw).2 k (Nat.le_refl _)
    rwa [List.take_of_length_le (by omega)] at this
  unfold fitsA at hfit
  have hsl : ∃ l, slLen s = some l ∧ (l + k) * (1 + i.bytes) ≤ 1000000000 := by
    cases hl : slLen s with
    | none => rw [hl] at hfit; cases hfit
    | some l =>
      rw [hl, hk] at hfit
      exact ⟨l, rfl, Nat.le_of_ble_eq_true hfit⟩
  obtain ⟨l, hl, hb⟩ := hsl
  unfold slLen at hl
  rcases vl_cases s with ⟨e1, rfl⟩ | ⟨id, off, l', c, e1, rfl⟩ | ⟨id, eo, l', es', e1, rfl⟩ | e1 <;> simp only [e1] at h hl
  · injection hl with hl
    subst hl
    obtain ⟨_, s2⟩ := hs.of (by simp)
    simp only [val] at s2
    subst s2
    cases k with
    | zero =>
      injection h with h h'
      subst h h'
      obtain ⟨q1, q2⟩ := r0 w rfl
      have hn0 : new = [] := List.eq_nil_of_length_eq_zero (by simpa using r2)
      subst hn0
      refine ⟨ρ, w, ?_, Ext.refl _ _, hS, .nils, Nat.le_refl _⟩
      have hzz : (match td with | .int _ => true | _ => false) = false := by cases td <;> first | rfl | exact absurd rfl (hni _)
      simp [Builtin.append_, run_underlying ht, run_underlying hu, sizeOf, typeInfo, hi, q1, q2, val]
    | succ k =>
      have h : openRow H e i.size new (k + 1) = .some v H' := h
      refine append_out hz1 ht hu hni hi hz hzs hS (old := []) (new := new) r0 (fun w' _ => by simp [Builtin.firstCells]) (by omega) hb (by simp) r2 (by simpa using r3) ?_
      simpa using h
  · injection hl with hl
    subst hl
    obtain ⟨s1, s2⟩ := hs.of (by simp)
    subst s2
    have hid : id < H.nx := by cases s1; assumption
    have hlc : l' ≤ c := by cases s1; assumption
    cases k with
    | zero =>
      injection h with h h'
      subst h h'
      have hn0 : new = [] := List.eq_nil_of_length_eq_zero (by simpa using r2)
      subst hn0
      refine ⟨ρ, w, ?_, Ext.refl _ _, hS, s1, Nat.le_refl _⟩
      simp only [val]
      exact run_append_in ht hu hni hi (r0 w rfl).1 (r0 w rfl).2 hlc (by simp [storeCells])
    | succ k =>
      have h : (Bool.rec (Option.rec .none (fun old => openRow H e i.size (app' old new) (Nat.add l' (k + 1))) (H.cells id off (Nat.mul l' i.size)))
          (Option.rec .none (fun H' => .some (.sl id off (Nat.add l' (k + 1)) c) H') (H.sets id (Nat.add off (Nat.mul l' i.size)) new)) (Nat.ble (Nat.add l' (k + 1)) c) : Res) = .some v H' := h
      cases hbl : Nat.ble (Nat.add l' (k + 1)) c with
      | false =>
        rw [hbl] at h
        obtain ⟨old, g1, g2⟩ := ores_some h
        rw [app'_eq] at g2
        have hlt : c < l' + (k + 1) := by
          rcases Nat.lt_or_ge c (l' + (k + 1)) with hh | hh
          · exact hh
          · have := Nat.ble_eq_true_of_le hh; exact absurd (this.symm.trans hbl) (by simp)
        obtain ⟨o1, o2, o3, o4⟩ := hS.cells hid g1
        simp only [val]
        refine append_out hz1 ht hu hni hi hz hzs hS (old := old) (new := new) r0 (hS.cells_run hid g1 rfl _ _) hlt hb o1 r2 (fun y hy => ?_) g2
        rcases List.mem_append.1 hy with hy | hy
        · exact ⟨o3 y hy, o4 y hy⟩
        · exact r3 y hy
      | true =>
        rw [hbl] at h
        obtain ⟨H1, g1, g2⟩ := ores_some h
        injection g2 with g2 g3
        subst g2 g3
        exact append_in hη ht hu hni hi hS (r0 w rfl) r3 hid (Nat.le_of_ble_eq_true hbl) g1
  · injection hl with hl
    subst hl
    obtain ⟨s1, s2⟩ := hs.of (by simp)
    subst s2
    have hid : id < H.nx := by cases s1; assumption
    have hlc : eo + l' ≤ ρ.c id := by cases s1; assumption
    cases k with
    | zero =>
      injection h with h h'
      subst h h'
      have hn0 : new = [] := List.eq_nil_of_length_eq_zero (by simpa using r2)
      subst hn0
      refine ⟨ρ, w, ?_, Ext.refl _ _, hS, s1, Nat.le_refl _⟩
      simp only [val]
      exact run_append_in ht hu hni hi (r0 w rfl).1 (r0 w rfl).2 (by omega) (by simp [storeCells])
    | succ k =>
      obtain ⟨h1, h2⟩ := bres_some h
      obtain rfl := Nat.eq_of_beq_eq_true h1
      obtain ⟨o, h3, h4⟩ := ores_some h2
      obtain ⟨h5, h6⟩ := bres_some h4
      obtain ⟨n, d, tr, rfl⟩ := Ob.ofs_some h5
      have key : ∃ old o', (Ob.row e i.size n d tr).gets (l' * i.size) (eo * i.size) = some old ∧ Reads o' e i.size (old ++ new) ∧ box1 (H.del id) o' (.slo H.nx 0 (l' + (k + 1)) i.size) = .some v H' := by
        obtain ⟨_, hrow⟩ := hS.ob id _ hid h3
        have hrow : RowOk ρ η H.nx w id e i.size n d tr := hrow
        cases eo with
        | zero =>
          obtain ⟨o', g1, g2⟩ := ores_some h6
          have hle := lay_le g1
          obtain ⟨⟨q1, -⟩, cs, fr, q2, q3, q4, q5, q6⟩ := hrow
          obtain ⟨old, hold⟩ := gets_row (el := e) (es := i.size) (fun j hj => by obtain ⟨y, m1, _⟩ := q6 j hj; exact ⟨y, m1⟩) (l' * i.size) 0 (by rw [Nat.zero_add]; exact hle)
          exact ⟨old, o', by rw [Nat.zero_mul]; exact hold, lay_reads q1 g1 hold, g2⟩
        | succ eo =>
          obtain ⟨old, g1, g2⟩ := ores_some h6
          rw [app'_eq] at g2
          exact ⟨old, _, g1, rowOf_reads _ _ _, g2⟩
      obtain ⟨old, o', g1, g2, g3⟩ := key
      have hcl : H.cells id (eo * i.size) (l' * i.size) = some old := by
        show (Option.rec none (fun o => o.gets (l' * i.size) (eo * i.size)) (H.ob id) : Option (List AV)) = some old
        rw [h3]; exact g1
      obtain ⟨o1, o2, o3, o4⟩ := hS.cells hid hcl
      by_cases hroom : l' + (k + 1) ≤ ρ.c id - eo
      · exact append_room hz1 hη ht hu hni hi hS hid h3 g1 g2 (r0 w rfl) r2 r3 hlc hroom g3
      · have hS' := hS.del hid
        have := append_outR (H := H.del id) (H' := H') (ty := ty) hz1 ht hu hni hi hz hzs hS' (b := some ⟨ρ.b id, ρ.d id + eo * i.size, none⟩) (sLen := l') (sCap := ρ.c id - eo) (n := k + 1) g2 r0 (hS.cells_run hid hcl rfl _ _) (by omega) hb o1 r2 (fun y hy => by
          rcases List.mem_append.1 hy with hy | hy
          · exact ⟨o3 y hy, o4 y hy⟩
          · exact r3 y hy) g3
        exact this
  · cases hl
end
end Go.Proofs.YtddcgoopgnogeaaGreatDoor.Ev
namespace Go.Proofs.YtddcgoopgnogeaaGreatDoor.Ev
open Go.RowKit (Below)
set_option linter.unusedVariables false
section
variable {P : Program} {η : Env} {base : Nat} {W w w' : World} {ρ : Ren} {H H' : Heap} {L : Loc} {a : Act} {nx : Nat}
theorem append_ok {o : Oper} {c : Call} {s x : Operand} {t t' e : TypeId} {td : TypeDesc} {z by' : Nat} {zv : AV} (ho : o.op = .call c) (hc : c.callee = .builtin .append) (hts : c.argTypes = #[t, t']) (hx : c.args = #[s, x])
    (ht : P.underlying t = some (.slice e)) (hu : P.underlying t' = some td) (hni : ∀ k, td ≠ .int k) (hs : szOf P e = some z) (hz : zeroOf P e = some zv) (hb : (P.info? e).map (·.bytes) = some by') (hl : and' (Nat.beq (len zv.cells) z) (Nat.ble 1 z) = true) :
    TurnOk P o fun L H => Bool.rec .none (appendA e z H ((gOf s).g L) ((gOf x).g L)) (fitsA by' ((gOf s).g L) ((gOf x).g L)) := by
  intro η base W ρ H w L a v H' hη hS hL h
  obtain ⟨h1, h2⟩ := bres_some h
  obtain ⟨cs, hcs⟩ := run_builtin (P := P) ho hc
  obtain ⟨ie, e1, e2⟩ := szOf_some hs
  obtain ⟨i, v0, z1, z2, z3, z4⟩ := zero_cells (ρ := ρ) (nx := H.nx) hη hz
  obtain rfl : ie = i := by rw [e1] at z1; injection z1
  rw [e1] at hb
  injection hb with hb
  have hb : ie.bytes = by' := hb
  rw [and'_eq, Bool.and_eq_true] at hl
  have c1 := Nat.eq_of_beq_eq_true hl.1
  have hz1 : z ≠ 0 := by have : 1 ≤ z := Nat.le_of_ble_eq_true hl.2; omega
  rw [len_eq] at c1
  subst hb
  subst e2
  obtain ⟨ρ', w', r1, r2, r3, r4, r5⟩ := appendA_ok (ty := o.type) hz1 hη ht hu hni e1 z2 (by rw [z3]; simp [c1]) hS (gOf_sound hL s) (gOf_sound hL x) h1 h2
  refine ⟨ρ', w', _, ?_, .inl rfl, r2, r3, r4, r5⟩
  rw [hcs, hts, hx]
  simp only [builtin]
  apply run_vw
  simpa using r1
end
end Go.Proofs.YtddcgoopgnogeaaGreatDoor.Ev
namespace Go.Proofs.YtddcgoopgnogeaaGreatDoor.Ev
open Go.RowKit (Below)
set_option linter.unusedVariables false
section
variable {P : Program} {η : Env} {base : Nat} {W w w' : World} {ρ : Ren} {H H' : Heap} {L : Loc} {a : Act} {nx : Nat}
theorem lenOf_some {x : AV} {v : Value} {k : Nat} (hx : Tells η ρ nx x v) (hk : lenOf x = some k) :
    (Builtin.lenOf v).run P w = .ok k w ∧ ∀ es, (Builtin.firstCells es 0 v).run P w = .ok #[] w := by
  unfold lenOf at hk
  split at hk
  · have := (hx.of (by simp)).2; subst this; injection hk with hk; subst hk; exact ⟨by simp [Builtin.lenOf, val], fun es => by simp [Builtin.firstCells, val]⟩
  · have := (hx.of (by simp)).2; subst this; injection hk with hk; subst hk; exact ⟨by simp [Builtin.lenOf, val], fun es => by simp [Builtin.firstCells, val]; exact run_cells (l := []) (by simp) (fun j u hj => by simp at hj)⟩
  · have := (hx.of (by simp)).2; subst this; injection hk with hk; subst hk; exact ⟨by simp [Builtin.lenOf, val], fun es => by simp [Builtin.firstCells, val]; exact run_cells (l := []) (by simp) (fun j u hj => by simp at hj)⟩
  · have := (hx.of (by simp)).2; subst this; injection hk with hk; subst hk; exact ⟨by simp [Builtin.lenOf, val, size_bytes], fun es => by simp [Builtin.firstCells, val]⟩
  · cases hk
/-- The first cells of a slice or a text. -/
theorem elems_le (hS : Sim η base W ρ H w) {es k n : Nat} {x : AV} {v : Value} {l : List AV} (hx : Tells η ρ H.nx x v) (hk : lenOf x = some k) (hn : n ≤ k) (he : elems H es x n = some l) :
    (Builtin.firstCells es n v).run P w = .ok (l.map (val ρ η)).toArray w ∧ ∀ y ∈ l, Wf ρ H.nx y ∧ y.leaf = true := by
  rcases hS.elems hx he with ⟨rfl, rfl, rfl⟩ | ⟨ad, o, len, cap, rfl, _, h1, h2, h3, h4⟩ | ⟨s, m, rfl, rfl, hs, rfl, rfl⟩
  · exact ⟨by simp [Builtin.firstCells], fun y hy => by cases hy⟩
  · refine ⟨?_, fun y hy => ⟨h3 y hy, h4 y hy⟩⟩
    simp only [Builtin.firstCells]
    exact run_cells (by simp [h1]) h2
  · obtain ⟨b1, b2⟩ := strBytes_ok (ρ := ρ) (η := η) (nx := H.nx) s m
    refine ⟨?_, fun y hy => b2 y (List.mem_of_mem_take hy)⟩
    rw [List.map_take, b1]
    simp only [Builtin.firstCells]
    rw [Sem.run_pure]
    congr 1
    apply Array.ext'
    have : (ByteArray.extract ⟨(bytesOf s m).toArray⟩ 0 n).data.toList = (bytesOf s m).take n := by simp [List.extract_eq_take_drop]
    rw [Array.toList_map, this]
    simp [List.map_take]
theorem run_copy {t u ty e : TypeId} {i : TypeInfo} (ht : P.underlying t = some (.slice e)) (hi : P.info? e = some i) {ad o l c k : Nat} {x : Value} {new : Array Value} (h1 : (Builtin.lenOf x).run P w = .ok k w)
    (h2 : (Builtin.firstCells i.size (Nat.min k l) x).run P w = .ok new w) (hs : (storeCells ⟨ad, o, none⟩ new.toList).run P w = .ok () w') :
    (Builtin.copy_ #[t, u] ty #[.slice (some ⟨ad, o, none⟩) l c, x]).run P w = .ok (.int .i64 (Nat.min k l)) w' := by
  simp [Builtin.copy_, run_underlying ht, sizeOf, typeInfo, hi, h1, h2, hs, goInt]
theorem copy_ok {o : Oper} {c : Call} {d s : Operand} {t t' e : TypeId} {z : Nat} (ho : o.op = .call c) (hc : c.callee = .builtin .copy) (hts : c.argTypes = #[t, t']) (hx : c.args = #[d, s])
    (ht : P.underlying t = some (.slice e)) (hs : szOf P e = some z) :
    TurnOk P o fun L H => Option.rec .none (fun k => VL.rec .none (.some (.i64 0) H)
          (fun id off l _ => Option.rec .none (fun c => Option.rec .none (fun H' => lenR (Nat.min k l) H') (H.sets id off c)) (elems H z ((gOf s).g L) (Nat.min k l)))
          (fun id eo l es => Bool.rec .none (Option.rec .none (fun c => Option.rec .none (fun H' => lenR (Nat.min k l) H') (H.sets id (Nat.mul eo es) c)) (elems H z ((gOf s).g L) (Nat.min k l))) (Nat.beq es z)) ((gOf d).g L).vl) (lenOf ((gOf s).g L)) := by
  intro η base W ρ H w L a v H' hη hS hL h
  obtain ⟨k, hk, h⟩ := ores_some h
  obtain ⟨cs, hcs⟩ := run_builtin (P := P) ho hc
  obtain ⟨i, e1, e2⟩ := szOf_some hs
  subst e2
  have hsx := gOf_sound hL s
  have hdx := gOf_sound hL d
  obtain ⟨k1, k2⟩ := lenOf_some (P := P) (w := w) hsx hk
  have go : ∀ id off l cap, id < H.nx → a.eval d = .slice (some ⟨ρ.b id, ρ.d id + off, none⟩) l cap →
      (Option.rec .none (fun c => Option.rec .none (fun H' => lenR (Nat.min k l) H') (H.sets id off c)) (elems H i.size ((gOf s).g L) (Nat.min k l)) : Res) = .some v H' →
      ∃ ρ' w' n, (execOp a.eval o).run P w = .ok n w' ∧ (n = .value (val ρ' η v) ∨ (n = .skip ∧ v = .tup [])) ∧ Ext ρ ρ' H.nx ∧ Sim η base W ρ' H' w' ∧ Wf ρ' H'.nx v ∧ H.nx ≤ H'.nx := by
    intro id off l cap hid hd h
    obtain ⟨new, g1, g2⟩ := ores_some h
    obtain ⟨H1, g3, g4⟩ := ores_some g2
    unfold lenR at g4
    obtain ⟨g5, g6⟩ := bres_some g4
    injection g6 with g6 g7
    subst g6 g7
    obtain ⟨f1, f2⟩ := elems_le (P := P) hS hsx hk (Nat.min_le_left k l) g1
    obtain ⟨w', r1, r2, r3⟩ := hS.sets (P := P) hη hid g3 f2
    have hmin : Nat.min k l ≤ 1000000000 := Nat.le_of_ble_eq_true g5
    obtain ⟨v1, v2⟩ := val_len (ρ := ρ) (η := η) (nx := H.nx) hmin
    refine ⟨ρ, w', _, ?_, .inl rfl, Ext.refl _ _, r2, by rw [r3]; exact v2, by omega⟩
    rw [hcs, hts, hx, map2]
    simp only [builtin]
    apply run_vw
    rw [hd, v1]
    exact run_copy ht e1 k1 f1 (by simpa using r1)
  rcases vl_cases ((gOf d).g L) with ⟨h1, h2⟩ | ⟨id, off, l, cp, h1, h2⟩ | ⟨id, eo, l, es, h1, h2⟩ | h1 <;> simp only [h1] at h
  · injection h with h h'
    subst h h'
    have hd := (hdx.of (by rw [h2]; simp)).2
    rw [h2] at hd
    refine ⟨ρ, w, _, ?_, .inl rfl, Ext.refl _ _, hS, .i64 (by decide), Nat.le_refl _⟩
    rw [hcs, hts, hx, map2]
    simp only [builtin]
    apply run_vw
    rw [hd]
    have hm : Nat.min k 0 = 0 := Nat.min_zero k
    simp [Builtin.copy_, run_underlying ht, sizeOf, typeInfo, e1, k1, k2, hm, goInt, val, iv64]
  · obtain ⟨d1, d2⟩ := hdx.of (by rw [h2]; simp)
    rw [h2] at d1 d2
    exact go id off l _ (by cases d1; assumption) (by rw [d2]; rfl) h
  · obtain ⟨d1, d2⟩ := hdx.of (by rw [h2]; simp)
    rw [h2] at d1 d2
    obtain ⟨q1, q2⟩ := bres_some h
    exact go id (eo * es) l _ (by cases d1; assumption) (by rw [d2]; rfl) q2
  · cases h
theorem clear_sl {o : Oper} {c : Call} {x : Operand} {t e : TypeId} {z : Nat} {zv : AV} (ho : o.op = .call c) (hc : c.callee = .builtin .clear) (ht : c.argTypes = #[t]) (hx : c.args = #[x]) (hu : P.underlying t = some (.slice e))
    (hs : szOf P e = some z) (hz : zeroOf P e = some zv) (hl : Nat.beq (len zv.cells) z = true) :
    TurnOk P o fun L H => VL.rec .none (.some (.tup []) H) (fun id off l _ => Option.rec .none (fun H' => .some (.tup []) H') (H.sets id off (repL zv.cells l)))
            (fun id eo l es => Bool.rec .none (Option.rec .none (fun H' => .some (.tup []) H') (H.sets id (Nat.mul eo es) (repL zv.cells l))) (Nat.beq es z)) ((gOf x).g L).vl := by
  intro η base W ρ H w L a v H' hη hS hL h
  obtain ⟨cs, hcs⟩ := run_builtin (P := P) ho hc
  have hsx := gOf_sound hL x
  obtain ⟨i, v0, z1, z2, z3, z4⟩ := zero_cells (ρ := ρ) (nx := H.nx) hη hz
  have go : ∀ id off l cap, id < H.nx → a.eval x = .slice (some ⟨ρ.b id, ρ.d id + off, none⟩) l cap → (Option.rec .none (fun H' => .some (.tup []) H') (H.sets id off (repL zv.cells l)) : Res) = .some v H' →
      ∃ ρ' w' n, (execOp a.eval o).run P w = .ok n w' ∧ (n = .value (val ρ' η v) ∨ (n = .skip ∧ v = .tup [])) ∧ Ext ρ ρ' H.nx ∧ Sim η base W ρ' H' w' ∧ Wf ρ' H'.nx v ∧ H.nx ≤ H'.nx := by
    intro id off l cap hid hd h
    obtain ⟨H1, g1, g2⟩ := ores_some h
    injection g2 with g2 g3
    subst g2
    subst g3
    have hrep : ∀ x ∈ repL zv.cells l, Wf ρ H.nx x ∧ x.leaf = true := by
      intro x hx
      rw [repL_eq, List.mem_flatten] at hx
      obtain ⟨y, hy, hxy⟩ := hx
      rw [List.eq_of_mem_replicate hy] at hxy
      exact z4 x hxy
    obtain ⟨w', r1, r2, r3⟩ := hS.sets (P := P) hη hid g1 hrep
    by_cases h0 : l = 0
    · subst h0
      have e0 : repL zv.cells 0 = [] := rfl
      rw [e0] at r1
      have hw : w' = w := by
        simp only [List.map_nil, storeCells] at r1
        simpa [Sem.run] using r1.symm
      subst hw
      refine ⟨ρ, w', .value (.tuple #[]), ?_, .inl (by simp [val, vals]), Ext.refl _ _, r2, tup_nil, by omega⟩
      rw [hcs, ht, hx, map1]
      simp only [builtin]
      apply run_vw
      rw [hd]
      simp [Builtin.clear_, run_underlying hu]
    · refine ⟨ρ, w', .value (.tuple #[]), ?_, .inl (by simp [val, vals]), Ext.refl _ _, r2, tup_nil, by omega⟩
      rw [hcs, ht, hx, map1]
      simp only [builtin]
      apply run_vw
      rw [hd]
      obtain ⟨n, rfl⟩ : ∃ n, l = n + 1 := ⟨l - 1, by omega⟩
      have hzc : (Builtin.zeroCells v0.cells (n + 1)).toList = (repL zv.cells (n + 1)).map (val ρ η) := by
        have := zeros_eq (ρ := ρ) (η := η) (z := zv.cells) (n := n + 1)
        have hsz : (zv.cells.map (val ρ η)).toArray.size = zv.cells.length := by simp
        rw [hsz] at this
        unfold Builtin.zeroCells
        rw [z3, hsz, this]
      have hzv : (zeroValue e).run P w = .ok v0 w := by simp [zeroValue, run_typeInfo w z1, z2]
      simp only [Builtin.clear_, Sem.run_bind, run_underlying hu, Result.andThen_ok, List.getElem?_toArray, List.getElem?_cons_zero, hzv, hzc, r1, Sem.run_pure]
  rcases vl_cases ((gOf x).g L) with ⟨h1, h2⟩ | ⟨id, off, l, cp, h1, h2⟩ | ⟨id, eo, l, es, h1, h2⟩ | h1 <;> simp only [h1] at h
  · injection h with h h'
    subst h h'
    have hd := (hsx.of (by rw [h2]; simp)).2
    rw [h2] at hd
    refine ⟨ρ, w, .value (.tuple #[]), ?_, .inl (by simp [val, vals]), Ext.refl _ _, hS, tup_nil, Nat.le_refl _⟩
    rw [hcs, ht, hx, map1]
    simp only [builtin]
    apply run_vw
    rw [hd]
    simp [Builtin.clear_, run_underlying hu, val]
  · obtain ⟨d1, d2⟩ := hsx.of (by rw [h2]; simp)
    rw [h2] at d1 d2
    exact go id off l _ (by cases d1; assumption) (by rw [d2]; rfl) h
  · obtain ⟨d1, d2⟩ := hsx.of (by rw [h2]; simp)
    rw [h2] at d1 d2
    obtain ⟨q1, q2⟩ := bres_some h
    exact go id (eo * es) l _ (by cases d1; assumption) (by rw [d2]; rfl) q2
  · cases h
end
end Go.Proofs.YtddcgoopgnogeaaGreatDoor.Ev
namespace Go.Proofs.YtddcgoopgnogeaaGreatDoor.Ev
open Go.RowKit (Below)
set_option linter.unusedVariables false
section
variable {P : Program} {η : Env} {base : Nat} {W w w' : World} {ρ : Ren} {H H' : Heap} {L : Loc} {a : Act} {nx : Nat}
theorem run_slice {o : Oper} {t e : TypeId} {x : Operand} {lo hi mx : Option Operand} {z : Nat} (ho : o.op = .slice t x lo hi mx) (hu : P.underlying t = some (.slice e)) (hz : szOf P e = some z)
    {ad : Option Addr} {len cap p q m : Nat} (hx : a.eval x = .slice ad len cap) (h1 : BndOk (lo.map a.eval) p 0) (h2 : BndOk (hi.map a.eval) q len) (h3 : BndOk (mx.map a.eval) m cap) (h4 : hi = none → mx = none)
    (hl : p ≤ q) (hh : q ≤ m) (hm : m ≤ cap) : (execOp a.eval o).run P w = .ok (.value (.slice (if m = p then ad else ad.map (·.add (p * z))) (q - p) (m - p))) w := by
  have hb := run_bounds (P := P) (w := w) (isSl := true) h1 h2 h3 (fun e => by
    cases hi with
    | none => rw [h4 rfl]; rfl
    | some _ => cases e) hl hh hm
  simp only [execOp, ho]
  apply run_v
  rw [hx]
  simp only [Instr.sliceAt, Instr.slice, Sem.run_bind, run_underlying hu, Result.andThen_ok, Sem.run_pure, hb, run_szOf hz]
theorem addr_if {b o m p z : Nat} : (if m = p then (some ⟨b, o, none⟩ : Option Addr) else (some ⟨b, o, none⟩ : Option Addr).map (·.add (p * z))) = some ⟨b, (Bool.rec (o + p * z) o (Nat.beq m p) : Nat), none⟩ := by
  rw [beq_eq]
  by_cases hmp : m = p
  · rw [if_pos hmp, decide_eq_true hmp]
  · rw [if_neg hmp, decide_eq_false hmp, Option.map_some, add_mk]
theorem slice_sl {o : Oper} {t e : TypeId} {x : Operand} {lo hi mx : Option Operand} {z : Nat} (ho : o.op = .slice t x lo hi mx) (hm : hi = none → mx = none) (hu : P.underlying t = some (.slice e)) (hz : szOf P e = some z) (hz1 : Nat.ble 1 z = true) :
    TurnOk P o fun L H => VL.rec .none
        (Option.rec .none (fun a => Option.rec .none (fun b => Option.rec .none (fun m => Bool.rec .none (.some .nils H) (and' (bounds a b m) (Nat.ble m 0))) (bnd (mx.map gOf) L 0)) (bnd (hi.map gOf) L 0)) (bnd (lo.map gOf) L 0))
        (fun id off l c => Option.rec .none (fun a => Option.rec .none (fun b => Option.rec .none (fun m => Bool.rec .none
          (.some (.sl id (Bool.rec (Nat.add off (Nat.mul a z)) off (Nat.beq m a)) (Nat.sub b a) (Nat.sub m a)) H) (and' (bounds a b m) (Nat.ble m c))) (bnd (mx.map gOf) L c)) (bnd (hi.map gOf) L l)) (bnd (lo.map gOf) L 0))
        (fun id eo l es => Option.rec .none (fun a => Option.rec .none (fun b => sliceO e z (mx.map gOf) L H id eo l es a b) (bnd (hi.map gOf) L l)) (bnd (lo.map gOf) L 0)) ((gOf x).g L).vl := by
  intro η base W ρ H w L a v H' hη hS hL h
  have hxt := gOf_sound hL x
  rcases vl_cases ((gOf x).g L) with ⟨h1, h2⟩ | ⟨id, off, l, cp, h1, h2⟩ | ⟨id, eo, l, es, h1, h2⟩ | h1 <;> simp only [h1] at h
  · obtain ⟨p, g1, h⟩ := ores_some h
    obtain ⟨q, g2, h⟩ := ores_some h
    obtain ⟨m, g3, h⟩ := ores_some h
    obtain ⟨g4, h⟩ := bres_some h
    injection h with h h'
    subst h h'
    rw [and'_eq, Bool.and_eq_true] at g4
    obtain ⟨b1, b2⟩ := bounds_iff g4.1
    have b3 : m ≤ 0 := Nat.le_of_ble_eq_true g4.2
    have hx := (hxt.of (by rw [h2]; simp)).2
    rw [h2] at hx
    simp only [val] at hx
    refine ⟨ρ, w, _, run_slice ho hu hz hx (bnd_ok hL g1) (bnd_ok hL g2) (bnd_ok hL g3) hm b1 b2 b3, .inl ?_, Ext.refl _ _, hS, .nils, Nat.le_refl _⟩
    have : p = 0 := by omega
    have : q = 0 := by omega
    have : m = 0 := by omega
    subst p q m
    simp [val]
  · obtain ⟨p, g1, h⟩ := ores_some h
    obtain ⟨q, g2, h⟩ := ores_some h
    obtain ⟨m, g3, h⟩ := ores_some h
    obtain ⟨g4, h⟩ := bres_some h
    injection h with h h'
    subst h h'
    rw [and'_eq, Bool.and_eq_true] at g4
    obtain ⟨b1, b2⟩ := bounds_iff g4.1
    have b3 : m ≤ cp := Nat.le_of_ble_eq_true g4.2
    obtain ⟨hw, hx⟩ := hxt.of (by rw [h2]; simp)
    rw [h2] at hx hw
    simp only [val] at hx
    refine ⟨ρ, w, _, run_slice ho hu hz hx (bnd_ok hL g1) (bnd_ok hL g2) (bnd_ok hL g3) hm b1 b2 b3, .inl ?_, Ext.refl _ _, hS, .sl (by cases hw; assumption) (show q - p ≤ m - p by omega), Nat.le_refl _⟩
    rw [addr_if]
    simp only [val]
    have : ρ.d id + (Bool.rec (Nat.add off (Nat.mul p z)) off (Nat.beq m p) : Nat) = (Bool.rec (ρ.d id + off + p * z) (ρ.d id + off) (Nat.beq m p) : Nat) := by
      cases Nat.beq m p
      · exact (Nat.add_assoc _ _ _).symm
      · rfl
    rw [this]
    rfl
  · obtain ⟨p, g1, h⟩ := ores_some h
    obtain ⟨q, g2, h⟩ := ores_some h
    unfold sliceO at h
    obtain ⟨g3, h9⟩ := bres_some h
    clear h
    obtain rfl := Nat.eq_of_beq_eq_true g3
    obtain ⟨hw, hx⟩ := hxt.of (by rw [h2]; simp)
    rw [h2] at hx hw
    simp only [val] at hx
    have hid : id < H.nx := by cases hw; assumption
    have hlc : eo + l ≤ ρ.c id := by cases hw; assumption
    cases mx with
    | some mo =>
      obtain ⟨m, g4, h⟩ := ores_some h9
      obtain ⟨g5, h⟩ := bres_some h
      injection h with h h'
      subst h h'
      rw [and'_eq, Bool.and_eq_true] at g5
      obtain ⟨b1, b2⟩ := bounds_iff g5.1
      have b3 : m ≤ l := Nat.le_of_ble_eq_true g5.2
      have hb3 := bnd_ok hL (x := some mo) (d := ρ.c id - eo) (n := m) g4
      refine ⟨ρ, w, _, run_slice ho hu hz hx (bnd_ok hL g1) (bnd_ok hL g2) hb3 hm b1 b2 (by omega), .inl ?_, Ext.refl _ _, hS, .sl hid (show q - p ≤ m - p by omega), Nat.le_refl _⟩
      rw [addr_if]
      simp only [val]
      have : ρ.d id + Nat.mul (Bool.rec (Nat.add eo p) eo (Nat.beq m p) : Nat) es = (Bool.rec (ρ.d id + eo * es + p * es) (ρ.d id + eo * es) (Nat.beq m p) : Nat) := by
        cases Nat.beq m p
        · show ρ.d id + (eo + p) * es = _
          rw [Nat.add_mul, Nat.add_assoc]
        · rfl
      rw [this]
      rfl
    | none =>
      obtain ⟨g4, h8⟩ := bres_some h9
      obtain ⟨b1, b2⟩ := bounds_iff g4
      have hb3 : BndOk ((none : Option Operand).map a.eval) (ρ.c id - eo) (ρ.c id - eo) := bnd_ok hL (x := none) (L := L) rfl
      have hrun := run_slice (P := P) (w := w) ho hu hz hx (bnd_ok hL g1) (bnd_ok hL g2) hb3 hm b1 (by omega) (Nat.le_refl _)
      cases hbe : Nat.beq p l with
      | false =>
        rw [hbe] at h8
        injection h8 with h8 h8'
        subst h8 h8'
        have hne : p ≠ l := Nat.ne_of_beq_eq_false hbe
        refine ⟨ρ, w, _, hrun, .inl ?_, Ext.refl _ _, hS, .slo hid (show eo + p + (q - p) ≤ ρ.c id by omega), Nat.le_refl _⟩
        rw [if_neg (by omega), Option.map_some, add_mk]
        simp only [val]
        rw [show ρ.d id + eo * es + p * es = ρ.d id + Nat.add eo p * es by show _ = ρ.d id + (eo + p) * es; rw [Nat.add_mul, Nat.add_assoc], show ρ.c id - eo - p = ρ.c id - Nat.add eo p by show _ = ρ.c id - (eo + p); omega]
        rfl
      | true =>
        rw [hbe] at h8
        obtain rfl := Nat.eq_of_beq_eq_true hbe
        obtain rfl : q = p := by omega
        cases q with
        | zero =>
          injection h8 with h8 h8'
          subst h8 h8'
          refine ⟨ρ, w, _, hrun, .inl ?_, Ext.refl _ _, hS, .slo hid (by omega), Nat.le_refl _⟩
          simp only [val]
          simp [add_mk]
        | succ q =>
          have h : (Option.rec .none (fun o => Bool.rec .none (box1 (H.del id) (.row e es 0 0 .nil) (.slo H.nx 0 0 es)) (o.ofs e es)) (H.ob id) : Res) = .some v H' := h8
          obtain ⟨ob, g5, h6⟩ := ores_some h
          obtain ⟨g6, h7⟩ := bres_some h6
          obtain ⟨n, d, tr, rfl⟩ := Ob.ofs_some g6
          obtain ⟨h3, rfl⟩ := box1_some h7
          obtain ⟨hb, hrow⟩ := hS.ob id _ hid g5
          have hrow : RowOk ρ η H.nx w id e es n d tr := hrow
          obtain ⟨⟨q1, -⟩, cs, fr, q2, q3, q4, q5, q6⟩ := hrow
          have hcs : ρ.c id * es = eo * es + (ρ.c id - eo) * es := by rw [← Nat.add_mul]; congr 1; omega
          have hpm : (ρ.c id - eo) * es = (q + 1) * es + (ρ.c id - eo - (q + 1)) * es := by rw [← Nat.add_mul]; congr 1; omega
          obtain ⟨dd, hdd, hd1, hd2⟩ : ∃ dd, (if ρ.c id - eo = q + 1 then (some ⟨ρ.b id, ρ.d id + eo * es, none⟩ : Option Addr) else (some ⟨ρ.b id, ρ.d id + eo * es, none⟩ : Option Addr).map (·.add ((q + 1) * es))) = some ⟨ρ.b id, dd, none⟩ ∧
              dd + (ρ.c id - eo - (q + 1)) * es ≤ ρ.d id + ρ.c id * es ∧ dd ≤ ρ.d id + ρ.c id * es := by
            by_cases hmq : ρ.c id - eo = q + 1
            · exact ⟨_, if_pos hmq, by rw [show ρ.c id - eo - (q + 1) = 0 by omega]; omega, by omega⟩
            · exact ⟨_, (if_neg hmq).trans (by rw [Option.map_some, add_mk]), by omega, by omega⟩
          have he := Ren.new_ext ρ H.nx (ρ.b id) dd (ρ.c id - eo - (q + 1))
          have eb : (ρ.new H.nx (ρ.b id) dd (ρ.c id - eo - (q + 1))).b H.nx = ρ.b id := by simp [Ren.new]
          have ed : (ρ.new H.nx (ρ.b id) dd (ρ.c id - eo - (q + 1))).d H.nx = dd := by simp [Ren.new]
          have ec : (ρ.new H.nx (ρ.b id) dd (ρ.c id - eo - (q + 1))).c H.nx = ρ.c id - eo - (q + 1) := by simp [Ren.new]
          have hlt := hS.lt
          obtain ⟨k1, k2, k3⟩ : Ext ρ (ρ.new H.nx (ρ.b id) dd (ρ.c id - eo - (q + 1))) H.nx ∧ Sim η base W (ρ.new H.nx (ρ.b id) dd (ρ.c id - eo - (q + 1))) H' w ∧ H'.nx = H.nx + 1 := by
            refine (hS.del hid).new h3 hb (fun j oj hj hoj => ?_) (fun m hm hm' => rfl) (Nat.le_refl _) rfl rfl rfl ?_
            · have hj : j < H.nx := hj
              by_cases hij : id = j
              · subst hij; rw [Heap.ob_del_same] at hoj; cases hoj
              · rw [Heap.ob_del_ne _ _ _ (by omega) (by omega) hij] at hoj
                exact fun hbb => hij (hS.inj j id _ _ hj hid hoj g5 hbb).symm
            · refine reads_ok (l := []) (el := e) (es := es) ⟨0, .nil, rfl, by simp, fun i hi => by simp at hi⟩ (cs := cs) (fr := fr) (fun y hy => by cases hy) ?_ (fun j y hj => by simp at hj) ?_ ?_ ?_ (by have : 1 ≤ _ := Nat.le_of_ble_eq_true hz1; omega)
              · show w.heap[(ρ.new H.nx (ρ.b id) dd (ρ.c id - eo - (q + 1))).b H.nx]? = _
                rw [eb]; exact q2
              · show (ρ.new H.nx (ρ.b id) dd (ρ.c id - eo - (q + 1))).d H.nx + 0 ≤ _
                rw [ed]; omega
              · show (ρ.new H.nx (ρ.b id) dd (ρ.c id - eo - (q + 1))).d H.nx + (ρ.new H.nx (ρ.b id) dd (ρ.c id - eo - (q + 1))).c H.nx * _ ≤ _
                rw [ed, ec]; omega
              · show _ ∨ ((ρ.new H.nx (ρ.b id) dd (ρ.c id - eo - (q + 1))).d H.nx + 0 ≤ _ ∧ (ρ.new H.nx (ρ.b id) dd (ρ.c id - eo - (q + 1))).d H.nx + (ρ.new H.nx (ρ.b id) dd (ρ.c id - eo - (q + 1))).c H.nx * _ ≤ _)
                rw [ed, ec]
                rcases q5 with q5 | ⟨_, q5⟩
                · exact .inl q5
                · exact .inr (by omega)
          refine ⟨_, w, _, hrun, .inl ?_, k1, k2, .slo (by omega) (by rw [ec]; omega), by omega⟩
          rw [hdd]
          simp [val, eb, ed, ec]
  · cases h
end
end Go.Proofs.YtddcgoopgnogeaaGreatDoor.Ev
