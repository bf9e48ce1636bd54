/- Texts of this proof, put together: Open, OpenRec. They prove no statement. -/
import Derived.Test.YteoebfiacnploaaGreatDoorQWall
import Derived.ProofKit
import Derived.ChangeOld
import Derived.Below
import Derived.Deep.Slices
import Derived.Test.YteoebfiacnploaaGreatDoorQG4
namespace Go.Proofs.YteoebfiacnploaaGreatDoor.Open
open Go.RowKit Go.Deep Go.Proofs.YteoebfiacnploaaGreatDoorW.PrintWords Go.Proofs.YteoebfiacnploaaGreatDoorW.PrintLast

variable {H : Type} {enc : TypeId × Value → H} {P : Program} {W : World}

/-- Whatever is read at type t is a value of kind kd, and meets ok. -/
def Opens {α : Type} (enc : TypeId × Value → H) (P : Program) (W : World) (t : TypeId) (kd : Kd α) (ok : α → Prop) : Prop :=
  ∀ fuel cs x, DataW.trod enc P W 0 (fun _ => true) true fuel t cs = some x → ∃ y, kd.K W y cs ∧ ok y

theorem opens_int {t : TypeId} {k : IntKind} (ht : P.underlying t = some (.int k)) : Opens enc P W t (Kd.int k) (fun x => (Lit.int k x).wf = true) := by
  intro fuel cs x h
  obtain ⟨n, rfl, _, hw⟩ := DataW.trod_int ht h
  exact ⟨n, rfl, hw⟩

theorem opens_string {t : TypeId} (ht : P.underlying t = some .string) : Opens enc P W t Kd.string (fun s => s.size ≤ maxLen) := by
  intro fuel cs x h
  obtain ⟨n, rfl, _, hw⟩ := DataW.trod_string ht h
  exact ⟨n, rfl, hw⟩

theorem opens_imp {α : Type} {t : TypeId} {kd : Kd α} {ok ok' : α → Prop} (h : Opens enc P W t kd ok) (hi : ∀ x, ok x → ok' x) : Opens enc P W t kd ok' := by
  intro fuel cs x hx
  obtain ⟨y, hy, ho⟩ := h fuel cs x hx
  exact ⟨y, hy, hi y ho⟩

theorem opens_slice {α : Type} {t e : TypeId} {kd : Kd α} {ok : α → Prop} (ht : P.underlying t = some (.slice e)) (hs : kd.sz = P.cellsOf e) (h : Opens enc P W e kd ok) :
    Opens enc P W t (Kd.slice e kd) (fun xs => xs.length ≤ maxLen ∧ ∀ x ∈ xs, ok x) := by
  intro fuel cs x hx
  rcases open_slice ht hx with ⟨rfl, _⟩ | ⟨a, len, cap, m, n, D, Pl, rfl, _, hl, hm, hmm, _, hel⟩
  · exact ⟨[], ⟨none, 0, rfl, Nat.le_refl _, Kd.C_nil _ _⟩, by simp, by simp⟩
  · have hm' : m = cap := by simpa using hmm
    have hex : ∀ i, i < len → ∃ y, ∃ c, W.cells? 0 (a.add (i * P.cellsOf e)) (P.cellsOf e) = some c ∧ kd.K W y c ∧ ok y := by
      intro i hi
      obtain ⟨c, hc, ht⟩ := hel i (by omega)
      obtain ⟨y, hy, ho⟩ := h _ _ _ ht
      exact ⟨y, c, hc, hy, ho⟩
    by_cases h0 : len = 0
    · subst h0
      exact ⟨[], ⟨some a, cap, rfl, Nat.zero_le _, rfl, by simp, fun h => absurd h (Nat.lt_irrefl 0)⟩, by simp, by simp⟩
    haveI : Inhabited α := ⟨(hex 0 (by omega)).choose⟩
    obtain ⟨f, hf⟩ := choose_lt hex
    have hlen : ((List.range len).map f).length = len := by simp
    refine ⟨(List.range len).map f, ⟨some a, cap, by rw [hlen], by rw [hlen]; exact hl, ?_⟩, by rw [hlen]; omega, ?_⟩
    · rw [hlen]
      refine ⟨hlen, by unfold maxLen at hm; omega, fun _ => ⟨a, rfl, ?_⟩⟩
      intro j p hp
      rw [List.getElem?_map, Option.map_eq_some_iff] at hp
      obtain ⟨i, hi, rfl⟩ := hp
      have hjl : j < len := by
        by_cases hj : j < len
        · exact hj
        · rw [List.getElem?_eq_none (by simp; omega)] at hi
          cases hi
      obtain rfl : j = i := by
        rw [List.getElem?_range hjl] at hi
        exact Option.some.inj hi
      obtain ⟨c, hc, hk, _⟩ := hf j hjl
      refine ⟨c, kd.K_len hk, hk, fun i u hu => ?_⟩
      obtain ⟨_, hcl, hcc⟩ := World.cells?_some hc
      have hil : i < c.length := by
        by_cases hi : i < c.length
        · exact hi
        · rw [List.getElem?_eq_none (by omega)] at hu
          cases hu
      have h1 := hcc i (by omega)
      rw [hu] at h1
      rw [← h1, hs, Addr.add_add]
    · intro y hy
      obtain ⟨i, hi, rfl⟩ := List.mem_map.1 hy
      obtain ⟨_, _, _, ho⟩ := hf i (List.mem_range.1 hi)
      exact ho

/-- What a list of fields reads as, from a place on. -/
def OpensF {α : Type} (enc : TypeId × Value → H) (P : Program) (W : World) (fs : List Field) (start : Nat) (kd : Kd α) (ok : α → Prop) : Prop :=
  ∀ (fuel : Nat) (cs : List Value) x, cs.length = start + kd.sz → fs.mapM (fun f => DataW.trod enc P W 0 (fun _ => true) true fuel f.type ((cs.drop f.offset).take (P.cellsOf f.type))) = some x → ∃ y, kd.K W y (cs.drop start) ∧ ok y

theorem opensF_one {α : Type} {f : Field} {kd : Kd α} {ok : α → Prop} {start : Nat} (ho : f.offset = start) (hs : kd.sz = P.cellsOf f.type) (h : Opens enc P W f.type kd ok) : OpensF enc P W [f] start kd ok := by
  intro fuel cs x hl hx
  obtain ⟨a, ha⟩ : ∃ a, DataW.trod enc P W 0 (fun _ => true) true fuel f.type ((cs.drop f.offset).take (P.cellsOf f.type)) = some a := by
    cases hq : DataW.trod enc P W 0 (fun _ => true) true fuel f.type ((cs.drop f.offset).take (P.cellsOf f.type)) with
    | none => simp [hq] at hx
    | some a => exact ⟨a, rfl⟩
  obtain ⟨y, hy, hok⟩ := h _ _ _ ha
  subst ho
  rw [List.take_of_length_le (by simp; omega)] at hy
  exact ⟨y, hy, hok⟩

theorem opensF_cons {α β : Type} {f : Field} {fs : List Field} {ka : Kd α} {kb : Kd β} {oa : α → Prop} {ob : β → Prop} {start mid : Nat} (ho : f.offset = start) (hs : ka.sz = P.cellsOf f.type) (hm : start + ka.sz = mid)
    (h : Opens enc P W f.type ka oa) (hr : OpensF enc P W fs mid kb ob) : OpensF enc P W (f :: fs) start (Kd.pair ka kb) (fun x => oa x.1 ∧ ob x.2) := by
  intro fuel cs x hl hx
  have hl' : cs.length = start + (ka.sz + kb.sz) := hl
  obtain ⟨a, ha⟩ : ∃ a, DataW.trod enc P W 0 (fun _ => true) true fuel f.type ((cs.drop f.offset).take (P.cellsOf f.type)) = some a := by
    cases hq : DataW.trod enc P W 0 (fun _ => true) true fuel f.type ((cs.drop f.offset).take (P.cellsOf f.type)) with
    | none => simp [hq] at hx
    | some a => exact ⟨a, rfl⟩
  obtain ⟨r, hr'⟩ : ∃ r, fs.mapM (fun f => DataW.trod enc P W 0 (fun _ => true) true fuel f.type ((cs.drop f.offset).take (P.cellsOf f.type))) = some r := by
    cases hq : fs.mapM (fun f => DataW.trod enc P W 0 (fun _ => true) true fuel f.type ((cs.drop f.offset).take (P.cellsOf f.type))) with
    | none => simp [hq] at hx
    | some r => exact ⟨r, rfl⟩
  obtain ⟨y, hy, hoa⟩ := h _ _ _ ha
  obtain ⟨z, hz, hob⟩ := hr fuel cs r (by omega) hr'
  subst ho
  refine ⟨(y, z), ⟨(cs.drop f.offset).take (P.cellsOf f.type), cs.drop mid, ?_, hy, hz⟩, hoa, hob⟩
  rw [← hm, ← List.drop_drop, ← hs, List.take_append_drop]

theorem opens_struct {α β : Type} {t : TypeId} {fs : Array Field} {kd : Kd α} {ok : α → Prop} (f : β → α) (g : α → β) (hfg : ∀ x, f (g x) = x) (ht : P.underlying t = some (.struct fs)) (hs : kd.sz = P.cellsOf t) (h : OpensF enc P W fs.toList 0 kd ok) :
    Opens enc P W t (Kd.iso kd f) (fun x => ok (f x)) := by
  intro fuel cs x hx
  cases fuel with
  | zero => simp [DataW.trod] at hx
  | succ n =>
    unfold DataW.trod at hx
    rw [ht] at hx
    simp only at hx
    by_cases hl : cs.length = P.cellsOf t
    · rw [if_pos hl] at hx
      obtain ⟨r, hr⟩ : ∃ r, fs.toList.mapM (fun f => DataW.trod enc P W 0 (fun _ => true) true n f.type ((cs.drop f.offset).take (P.cellsOf f.type))) = some r := by
        cases hq : fs.toList.mapM (fun f => DataW.trod enc P W 0 (fun _ => true) true n f.type ((cs.drop f.offset).take (P.cellsOf f.type))) with
        | none => simp [hq] at hx
        | some r => exact ⟨r, rfl⟩
      obtain ⟨y, hy, hok⟩ := h n cs r (by omega) hr
      refine ⟨g y, ?_, by show ok (f (g y)); rw [hfg]; exact hok⟩
      show kd.K W (f (g y)) cs
      rw [hfg]
      simpa using hy
    · rw [if_neg hl] at hx
      cases hx

theorem opens_at {α : Type} {t : TypeId} {kd : Kd α} {ok : α → Prop} {v : Value} {d : DataW H} {ps : List MemPlace} (h : Opens enc P W t kd ok) (hv : DataW.Trod enc P W 0 (fun _ => true) true t v d ps) : ∃ y, kd.K W y v.cells.toList ∧ ok y := by
  obtain ⟨fuel, hf⟩ := hv
  exact h _ _ _ hf

end Go.Proofs.YteoebfiacnploaaGreatDoor.Open
namespace Go.Proofs.YteoebfiacnploaaGreatDoor.HRec
open Go.RowKit Go.Deep Go.Proofs.YteoebfiacnploaaGreatDoor.Open Go.Proofs.YteoebfiacnploaaGreatDoorW.PrintWords Go.Proofs.YteoebfiacnploaaGreatDoorW.PrintLast
set_option linter.unusedVariables false
set_option maxRecDepth 100000 in
theorem opens_144 {H : Type} {enc : TypeId × Value → H} {W : World} : Opens enc Tryz.prog W 53 k144 (fun _ => True) :=
  opens_imp (opens_struct (ok := fun x => (Lit.int .i64 x.1).wf = true ∧ x.2.size ≤ maxLen) (fun x : S144 => (x.f0, x.f1)) (fun p => ⟨p.1, p.2⟩) (fun _ => rfl) Tryz.underlying53 (by kernel_rfl) (opensF_cons rfl rfl rfl (opens_int Tryz.underlying3) (opensF_one rfl rfl (opens_string Tryz.underlying9)))) (fun _ _ => trivial)
set_option maxRecDepth 100000 in
theorem opens_36 {H : Type} {enc : TypeId × Value → H} {W : World} : Opens enc Tryz.prog W 55 k36 (fun _ => True) :=
  opens_imp (opens_struct (ok := fun x => (Lit.int .i64 x.1).wf = true ∧ (Lit.int .i64 x.2).wf = true) (fun x : S36 => (x.f0, x.f1)) (fun p => ⟨p.1, p.2⟩) (fun _ => rfl) Tryz.underlying55 (by kernel_rfl) (opensF_cons rfl rfl rfl (opens_int Tryz.underlying3) (opensF_one rfl rfl (opens_int Tryz.underlying3)))) (fun _ _ => trivial)
set_option maxRecDepth 100000 in
theorem opens_rec {H : Type} {enc : TypeId × Value → H} {W : World} : Opens enc Tryz.prog W 33 kRec (fun _ => True) := by
  have i := @opens_int H enc Tryz.prog W 3 .i64 Tryz.underlying3
  have s := @opens_string H enc Tryz.prog W 9 Tryz.underlying9
  have a := opens_imp (ok' := fun _ => True) (opens_slice Tryz.underlying30 (by kernel_rfl) (@opens_144 H enc W)) (fun _ _ => trivial)
  have b := opens_imp (ok' := fun _ => True) (opens_slice Tryz.underlying31 (by kernel_rfl) (@opens_36 H enc W)) (fun _ _ => trivial)
  have i := opens_imp (ok' := fun _ => True) i (fun _ _ => trivial)
  have s := opens_imp (ok' := fun _ => True) s (fun _ _ => trivial)
  refine opens_imp (opens_struct (fun x : RecT => x) (fun x => x) (fun _ => rfl) Tryz.underlying33 (by kernel_rfl) (opensF_cons rfl rfl rfl i (opensF_cons rfl rfl rfl i (opensF_cons rfl rfl rfl i (opensF_cons rfl rfl rfl i (opensF_cons rfl rfl rfl i (opensF_cons rfl rfl rfl s (opensF_cons rfl rfl rfl s (opensF_cons rfl rfl rfl s (opensF_cons rfl rfl rfl i (opensF_cons rfl rfl rfl a (opensF_cons rfl rfl rfl b (opensF_cons rfl rfl rfl i (opensF_one rfl rfl i)))))))))))))) (fun _ _ => trivial)
end Go.Proofs.YteoebfiacnploaaGreatDoor.HRec
