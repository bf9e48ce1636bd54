/- What the evaluator tells of loops over maps and of calls put off. It proves no statement. -/
import Derived.Test.YtddcgoopgnogeaaGreatDoorEvF
import Derived.Lib.Repeat
import Derived.Shelf.SlIterI.Nil
import Derived.Shelf.SlIterI.Sorted
import Derived.Shelf.SlIter.Nil
import Derived.Defers
set_option linter.unusedVariables false
set_option linter.unusedSimpArgs false
set_option linter.unusedSectionVars false
namespace Go.Proofs.YtddcgoopgnogeaaGreatDoor.Ev
open Go.RowKit (Below)
open Go.ChangeMaps (setBlock)
set_option linter.unusedVariables false
section
variable {P : Program} {η : Env} {base : Nat} {W w w' : World} {ρ ρ' ρ0 ρ1 : Ren} {H H' : Heap} {L : Loc} {a : Act} {nx nx' n0 n1 nt : Nat}
theorem zip_ok : ∀ {es : List MapEntry} {l : List (AV × AV)}, es.map (fun e => (e.key, e.val)) = l.map (fun p => (val ρ η p.1, val ρ η p.2)) → (es.zip l).map Prod.fst = es ∧ (es.zip l).map Prod.snd = l ∧ ∀ z ∈ es.zip l, z.1.key = val ρ η z.2.1 ∧ z.1.val = val ρ η z.2.2
  | [], [], h => ⟨rfl, rfl, fun z hz => by cases hz⟩
  | [], _ :: _, h => by cases h
  | _ :: _, [], h => by cases h
  | e :: es, p :: l, h => by
    simp only [List.map_cons, List.cons.injEq, Prod.mk.injEq] at h
    obtain ⟨⟨h1, h2⟩, h3⟩ := h
    obtain ⟨g1, g2, g3⟩ := zip_ok h3
    refine ⟨by simp [g1], by simp [g2], fun z hz => ?_⟩
    rcases List.mem_cons.1 hz with rfl | hz
    · exact ⟨h1, h2⟩
    · exact g3 z hz
/-- A cell that is written: one block is turned. -/
theorem store1 {o : Oper} {ty : TypeId} {xa xv : Operand} {si off : Nat} {ob ob' : Ob} {v : AV} (hη : Leaves η) (ho : o.op = .store ty xa xv) (hz : szOf P ty = some 1) (hS : Sim η base W ρ H w) (hsi : si < H.nx) (hob : H.ob si = some ob)
    (hs : ob.set off v = some ob') (hv : Wf ρ H.nx v) (hl : v.leaf = true) (h1 : a.eval xa = .pointer (some ⟨ρ.b si, ρ.d si + off, none⟩)) (h2 : a.eval xv = val ρ η v) :
    ∃ w2 : World, (execOp a.eval o).run P w = .ok .skip w2 ∧ Sim η base W ρ (H.put si ob') w2 ∧ ∀ k, k ≠ ρ.b si → w2.heap[k]? = w.heap[k]? := by
  obtain ⟨b1, b2, b3⟩ := hS.set1 hsi hob hs hv hl
  obtain ⟨c1, c2⟩ := leaf_one hη hv hl
  have hrun := run_storeCells_cells (P := P) (ρ.b si) (ρ.d si + off) [val ρ η v] 0 w (fun j hj => by
      have : j = 0 := by simpa using hj
      subst this; simpa using b1) (fun j hj => by
      have : j = 0 := by simpa using hj
      subst this; simpa using b2) (fun u hu => by
      have : u = val ρ η v := by simpa using hu
      subst this; exact c1)
  refine ⟨_, ?_, b3, fun k hk => by simp only [World.setCell, Array.getElem?_modify]; rw [if_neg (fun e => hk e.symm)]⟩
  simp only [execOp, ho]
  apply run_u
  rw [h1, h2]
  simp only [Nat.add_zero] at hrun
  simp [Instr.storeAt, Instr.sureAddr, storeVar, run_szOf hz, c2, hrun, World.setCells]
/-- A loop that lays a map's entries into a row. -/
theorem sync_loop {es : Array MapEntry} {clock r it x c y b0 b1 i8 i9 i10 m si id off so ls : Nat} {oN oE oY oS : Oper} {l9 l10 : List Oper} {ops9 ops10 : Array Oper} {ty : TypeId} {xa xv : Operand} {Lc : Loc} {l : List (AV × AV)} {o oF : Ob}
    (ht : nt ≤ 256) (hη : Leaves η)
    (hN : oN.op = .next (.tmp it) false) (hNd : oN.dst = some x) (hNg : oN.guard = none) (hE : oE.op = .extract (.tmp x) 0) (hEd : oE.dst = some c) (hEg : oE.guard = none)
    (hY : oY.op = .entry (.tmp it)) (hYd : oY.dst = some y) (hYg : oY.guard = none) (hS : oS.op = .store ty xa xv) (hSd : oS.dst = none) (hSg : oS.guard = none) (hzy : szOf P ty = some 1)
    (h9 : ops9 = (oY :: l9).toArray) (h10 : ops10 = (l10 ++ [oS]).toArray) (hx : x < nt) (hc : c < nt) (hy : y < nt)
    (hfree : ∀ t, (t = it ∨ (t < 256 ∧ Lc.get t ≠ .any)) → t ≠ x ∧ t ≠ c ∧ t ≠ y ∧ ∀ o ∈ l9 ++ l10, o.dst ≠ some t)
    (hm : m < H.nx) (hml : H.mp m = some l) (hsi : si < H.nx) (hso : H.ob si = some o) (hne : m ≠ si) (hid : id < H.nx) (hide : id ≠ si) (hkn : l.Pairwise KNe) (hsync : syncO so ls l o = some oF)
    (hbody : ∀ (H' : Heap) (p : AV × AV) (k : Nat), H'.cell id off = H.cell id off → p.1.vx = some k → k < ls → ∃ L9 L10, looksC P nt H' l9 ((putC (some y)).put (.tup [p.1, p.2]) Lc) = some L9 ∧ looksC P nt H' l10 L9 = some L10 ∧ (gOf xa).g L10 = .ptr si (so + k) ∧ (gOf xv).g L10 = p.2)
    (hsim : Sim η base W ρ H w) (hr1 : base ≤ r) (hr2 : ∀ i oi, i < H.nx → H.ob i = some oi → ρ.b i ≠ r) (hr3 : w.heap[r]? = some (.mapIter (some (ρ.b m)) clock #[] clock)) (hme : w.heap[ρ.b m]? = some (.map es clock)) (hpe : es.toList.map (fun e => (e.key, e.val)) = pairs ρ η l) (hbn : Born es clock)
    (hL : LocOk η ρ H.nx Lc a) (hs : a.tmps.size = nt) (hit : a.tmps.getD it undef = .pointer (some ⟨r, 0, none⟩)) :
    (Code.loop (.seq (.region i8 #[oN, oE] false) (.seq (.cond (.tmp c) .skip (.exit b0)) (.block b1 (.seq (.region i9 ops9 false) (.region i10 ops10 false)))))).wp P
      (fun e a w => e = .exit b0 ∧ Sim η base W ρ (H.put si oF) w ∧ LocOk η ρ H.nx Lc a ∧ a.tmps.size = nt) a w := by
  have hlt := hsim.lt
  obtain ⟨om, hom, hom2⟩ := oget_some hml
  have hrm : r ≠ ρ.b m := fun e => hr2 m om hm hom e.symm
  have hrsi : r ≠ ρ.b si := fun e => hr2 si o hsi hso e.symm
  have hms : ρ.b m ≠ ρ.b si := fun e => hne (hsim.inj m si _ _ hm hsi hom hso e)
  obtain ⟨hwf, _⟩ := hsim.mp hm hml
  obtain ⟨z1, z2, z3⟩ := zip_ok hpe
  have hrow : RowN o := by
    obtain ⟨_, hk⟩ := hsim.ob si o hsi hso
    cases o with
    | mp l => intro _ _ _ _ _ e; cases e
    | row el es n d t =>
      intro _ _ _ _ _ e
      injection e with _ _ e1 e2 e3
      subst e1 e2 e3
      exact (RowOk.hn hk).1
  have hfr : ∀ t, (t = it ∨ (t < 256 ∧ Lc.get t ≠ .any)) → ∀ (a : Act) (u v : Value), ((a.put (some x) u).put (some c) v).tmps[t]? = a.tmps[t]? := fun t htt a u v => by
    obtain ⟨q1, q2, _⟩ := hfree t htt
    rw [put_ne _ _ _ _ (Ne.symm q2), put_ne _ _ _ _ (Ne.symm q1)]
  have hgd : ∀ (a a' : Act), a'.tmps[it]? = a.tmps[it]? → a.tmps.getD it undef = .pointer (some ⟨r, 0, none⟩) → a'.tmps.getD it undef = .pointer (some ⟨r, 0, none⟩) := fun a a' h1 h2 => by
    rw [Array.getD_eq_getD_getElem?] at h2 ⊢
    rw [h1]
    exact h2
  refine range_wp (P := P) (es.toList.zip l) Prod.fst z1 hbn hrm hN hNd hNg hE hEd hEg
    (fun V a w => ∃ oV, syncO so ls (V.map Prod.snd) o = some oV ∧ Sim η base W ρ (H.put si oV) w ∧ LocOk η ρ H.nx Lc a ∧ a.tmps.size = nt ∧ a.tmps.getD it undef = .pointer (some ⟨r, 0, none⟩) ∧
      w.heap[r]? = some (.mapIter (some (ρ.b m)) clock (V.map fun z => z.1.born).toArray clock) ∧ w.heap[ρ.b m]? = some (.map es clock)) ?_ ?_ ?_ a w ?_
  · rintro V a w ⟨oV, q1, q2, q3, q4, q5, q6, q7⟩
    exact ⟨q5, q6, q7, by omega, by omega⟩
  · rintro V a w hp ⟨oV, q1, q2, q3, q4, q5, q6, q7⟩
    have hp2 : l.Perm (V.map Prod.snd) := by
      have := hp.map Prod.snd
      rw [z2] at this
      exact this.symm
    have := syncO_perm hp2 hkn hrow hsync
    rw [q1] at this
    injection this with this
    subst this
    refine ⟨rfl, q2, q3.frame q3.defers fun t h6 htt => hfr t (.inr ⟨h6, htt⟩) a _ _, by rw [put_size, put_size]; exact q4⟩
  · rintro V z R a w w1 hp ⟨oV, q1, q2, q3, q4, q5, q6, q7⟩ hw1
    have hz : z ∈ es.toList.zip l := hp.mem_iff.1 (by simp)
    obtain ⟨k1, k2⟩ := z3 z hz
    have hzl : z.2 ∈ l := by rw [← z2]; exact List.mem_map.2 ⟨z, hz, rfl⟩
    have hze : z.1 ∈ es.toList := by
      have : z.1 ∈ (es.toList.zip l).map Prod.fst := List.mem_map.2 ⟨z, hz, rfl⟩
      rwa [z1] at this
    obtain ⟨wf1, wf2⟩ := hwf z.2 hzl
    have hp2 : l.Perm ((V ++ z :: R).map Prod.snd) := by
      have := hp.map Prod.snd
      rw [z2] at this
      exact this.symm
    have hall := syncO_perm hp2 hkn hrow hsync
    rw [List.map_append] at hall
    obtain ⟨oV', s1, s2⟩ := syncO_append hall
    rw [q1] at s1
    injection s1 with s1
    subst s1
    rw [List.map_cons] at s2
    obtain ⟨o2, s3, s4⟩ := syncO_cons.1 s2
    obtain ⟨k, s5, s6, s7, s8⟩ := sync1_some s3
    -- the world behind the step
    have hw2r : w1.heap[r]? = some (.mapIter (some (ρ.b m)) clock (V.map fun z => z.1.born).toArray clock) := by rcases hw1 with rfl | rfl <;> exact q6
    have hw2m : w1.heap[ρ.b m]? = some (.map es clock) := by rcases hw1 with rfl | rfl <;> exact q7
    have sim1 : Sim η base W ρ (H.put si oV) w1 := by rcases hw1 with rfl | rfl <;> first | exact q2 | exact q2.same rfl rfl rfl rfl
    have hlive : ∀ i oi, i < (H.put si oV).nx → (H.put si oV).ob i = some oi → ρ.b i ≠ r := fun i oi hi hoi => by
      have hi : i < H.nx := hi
      by_cases he : si = i
      · subst he; exact fun e => hrsi e.symm
      · rw [Heap.ob_put_ne _ _ _ _ (by omega) (by omega) he] at hoi
        exact hr2 i oi hi hoi
    have hbt : ∀ k', (setBlock w1 r (.mapIter (some (ρ.b m)) clock ((V.map fun z => z.1.born).toArray.push z.1.born) clock)).heap[k']? = if k' = r then some (.mapIter (some (ρ.b m)) clock ((V.map fun z => z.1.born).toArray.push z.1.born) clock) else w1.heap[k']? := fun k' => setBlock_get hw2r
    have sim2 : Sim η base W ρ (H.put si oV) (setBlock w1 r (.mapIter (some (ρ.b m)) clock ((V.map fun z => z.1.born).toArray.push z.1.born) clock)) :=
      sim1.off hr1 hlive (fun k' hk' => by rw [hbt, if_neg hk']) (by simp [setBlock]) rfl rfl rfl
    have hw3r := hbt r
    rw [if_pos rfl] at hw3r
    have hw3m := hbt (ρ.b m)
    rw [if_neg (fun e => hrm e.symm), hw2m] at hw3m
    generalize (setBlock w1 r (.mapIter (some (ρ.b m)) clock ((V.map fun z => z.1.born).toArray.push z.1.born) clock)) = w2 at sim2 hw3r hw3m ⊢
    -- the slots behind the step
    have hL2 : LocOk η ρ H.nx Lc ((a.put (some x) (.tuple #[.bool true, z.1.key, z.1.val])).put (some c) (.bool true)) := q3.frame q3.defers fun t h6 htt => hfr t (.inr ⟨h6, htt⟩) a _ _
    have hs2 : ((a.put (some x) (.tuple #[.bool true, z.1.key, z.1.val])).put (some c) (.bool true)).tmps.size = nt := by rw [put_size, put_size]; exact q4
    have hi2 := hgd a _ (hfr it (.inl rfl) a (.tuple #[.bool true, z.1.key, z.1.val]) (.bool true)) q5
    generalize ((a.put (some x) (.tuple #[.bool true, z.1.key, z.1.val])).put (some c) (.bool true)) = a2 at hL2 hs2 hi2 ⊢
    obtain ⟨L9, L10, b1', b2', b3', b4'⟩ := hbody (H.put si oV) z.2 k (by
      unfold Heap.cell
      rw [Heap.ob_put_ne _ _ _ _ (by omega) (by omega) (fun e => hide e.symm)]) s5 s6
    apply wp_block
    apply wp_seq
    apply wp_region
    rw [h9]
    have hsz9 : (oY :: l9).toArray.size = l9.length + 1 := by simp
    rw [hsz9, List.range_eq_range', List.range'_succ]
    unfold wpOps
    have ho0 : (oY :: l9).toArray[0]? = some oY := by simp
    simp only [ho0]
    rw [if_pos (by simp [Region.wanted, hYg])]
    left
    unfold Oper.wp
    have e1 : (execOp a2.eval oY).run P w2 = .ok (.value (.tuple #[z.1.key, z.1.val])) w2 := by
      simp only [execOp, hY]
      have : a2.eval (.tmp it) = .pointer (some ⟨r, 0, none⟩) := hi2
      apply run_v
      rw [this]
      exact run_entry_at w2 r (ρ.b m) clock _ es clock z.1 hw3r hw3m hze hbn.2
    rw [e1, Oper.upon_value, hYd]
    have hL3 : LocOk η ρ H.nx ((putC (some y)).put (.tup [z.2.1, z.2.2]) Lc) (a2.put (some y) (.tuple #[z.1.key, z.1.val])) := by
      refine hL2.put (.inr ⟨.tup (fun u hu => ?_), ?_⟩) (fun t htt => ?_)
      · rcases List.mem_cons.1 hu with rfl | hu
        · exact wf1
        · obtain rfl := List.mem_singleton.1 hu
          exact wf2
      · rw [k1, k2]; simp [val, vals]
      · obtain rfl : y = t := by injection htt
        exact ⟨Nat.lt_of_lt_of_le hy ht, by rw [hs2]; exact hy⟩
    have step9 := looks_wp (P := P) (ops := (oY :: l9).toArray) (rest := []) (Q := Exit.then (Code.wp P (.region i10 ops10 false) (Exit.inBlock b1 fun e a' w' => e = Exit.normal ∧ ∃ oV, syncO so ls ((V ++ [z]).map Prod.snd) o = some oV ∧ Sim η base W ρ (H.put si oV) w' ∧ LocOk η ρ H.nx Lc a' ∧ a'.tmps.size = nt ∧ a'.tmps.getD it undef = .pointer (some ⟨r, 0, none⟩) ∧
      w'.heap[r]? = some (.mapIter (some (ρ.b m)) clock ((V ++ [z]).map fun z => z.1.born).toArray clock) ∧ w'.heap[ρ.b m]? = some (.map es clock))) (Exit.inBlock b1 fun e a' w' => e = Exit.normal ∧ ∃ oV, syncO so ls ((V ++ [z]).map Prod.snd) o = some oV ∧ Sim η base W ρ (H.put si oV) w' ∧ LocOk η ρ H.nx Lc a' ∧ a'.tmps.size = nt ∧ a'.tmps.getD it undef = .pointer (some ⟨r, 0, none⟩) ∧
      w'.heap[r]? = some (.mapIter (some (ρ.b m)) clock ((V ++ [z]).map fun z => z.1.born).toArray clock) ∧ w'.heap[ρ.b m]? = some (.map es clock))) ht hη sim2 l9 1 _ L9 _ (fun j o' hj => by
        rw [Nat.add_comm]; simpa using hj) b1' hL3 (by rw [put_size]; exact hs2) ?_
    · rw [List.append_nil] at step9
      exact step9
    intro a4 g1 g2 g3
    show (Code.region i10 ops10 false).wp P _ a4 w2
    apply wp_region
    rw [h10]
    have hsz10 : (l10 ++ [oS]).toArray.size = l10.length + 1 := by simp
    rw [hsz10, List.range_eq_range', ← List.range'_append_1]
    refine looks_wp (P := P) (ops := (l10 ++ [oS]).toArray) ht hη sim2 l10 0 _ L10 _ (fun j o' hj => by
      have := (List.getElem?_eq_some_iff.1 hj).1
      simp [List.getElem?_append_left this, hj]) b2' g1 g2 ?_
    intro a5 g4 g5 g6
    rw [show List.range' (0 + l10.length) 1 = [l10.length] by simp]
    unfold wpOps
    have hoS : (l10 ++ [oS]).toArray[l10.length]? = some oS := by simp
    simp only [hoS]
    rw [if_pos (by simp [Region.wanted, hSg])]
    left
    have ea : a5.eval xa = .pointer (some ⟨ρ.b si, ρ.d si + (so + k), none⟩) := (tells_ptr (gOf_sound g4 xa) (show ((gOf xa).g L10).vp = .ptr si (so + k) by rw [b3']; rfl)).1
    have ev : a5.eval xv = val ρ η z.2.2 := by
      have := ((gOf_sound g4 xv).of (by rw [b4']; rintro e; rw [e] at s7; cases s7)).2
      rw [b4'] at this
      exact this
    obtain ⟨w3, r1, r2, r3⟩ := store1 (P := P) (H := H.put si oV) hη hS hzy sim2 (show si < (H.put si oV).nx from hsi) (Heap.ob_put_same _ _ _) s8 wf2 s7 ea ev
    unfold Oper.wp
    rw [r1, Oper.upon_skip, hSd]
    unfold wpOps
    show Exit.normal = Exit.normal ∧ _
    have hslots : ∀ t, (t = it ∨ (t < 256 ∧ Lc.get t ≠ .any)) → a5.tmps[t]? = a2.tmps[t]? := fun t htt => by
      obtain ⟨f1, f2, f3, f4⟩ := hfree t htt
      rw [g6 t fun o' ho' => f4 o' (List.mem_append_right _ ho'), g3 t fun o' ho' => f4 o' (List.mem_append_left _ ho'), put_ne _ _ _ _ (Ne.symm f3)]
    refine ⟨rfl, o2, ?_, ?_, ?_, g5, ?_, ?_, ?_⟩
    · rw [List.map_append]
      have : ∀ (A : List (AV × AV)) (u u1 u2 : Ob) (p : AV × AV), syncO so ls A u = some u1 → sync1 so ls p u1 = some u2 → syncO so ls (A ++ [p]) u = some u2 := by
        intro A
        induction A with
        | nil =>
          intro u u1 u2 p h1 h2
          have : u = u1 := by injection h1
          subst this
          exact syncO_cons.2 ⟨u2, h2, rfl⟩
        | cons q A ih =>
          intro u u1 u2 p h1 h2
          obtain ⟨u3, h3, h4⟩ := syncO_cons.1 h1
          exact syncO_cons.2 ⟨u3, h3, ih _ _ _ _ h4 h2⟩
      exact this _ _ _ _ _ q1 s3
    · refine r2.congr rfl fun i hi => ?_
      have hi : i < H.nx := hi
      by_cases he : si = i
      · subst he; rw [Heap.ob_put_same, Heap.ob_put_same]
      · rw [Heap.ob_put_ne _ _ _ _ (by omega) (by omega) he, Heap.ob_put_ne _ _ _ _ (by omega) (by omega) he, Heap.ob_put_ne _ _ _ _ (by omega) (by omega) he]
    · exact hL2.frame g4.defers fun t h6 htt => hslots t (.inr ⟨h6, htt⟩)
    · exact hgd a2 a5 (hslots it (.inl rfl)) hi2
    · rw [r3 r hrsi, hw3r]; simp
    · rw [r3 _ hms, hw3m]
  · refine ⟨o, rfl, hsim.congr rfl fun i hi => ?_, hL, hs, hit, hr3, hme⟩
    have hi : i < H.nx := hi
    by_cases he : si = i
    · subst he; rw [Heap.ob_put_same, hso]
    · rw [Heap.ob_put_ne _ _ _ _ (by omega) (by omega) he]
end
end Go.Proofs.YtddcgoopgnogeaaGreatDoor.Ev
namespace Go.Proofs.YtddcgoopgnogeaaGreatDoor.Ev
open Go.RowKit (Below)
open Go.ChangeMaps (setBlock)
set_option linter.unusedVariables false
section
variable {P : Program} {η : Env} {base : Nat} {W w w' : World} {ρ ρ' ρ0 ρ1 : Ren} {H H' : Heap} {L : Loc} {a : Act} {nx nx' n0 n1 nt : Nat}
noncomputable def Lany : Loc := N16.rep (N16.rep AV.any)
/-- One slot told, no other one. -/
noncomputable def Lone (id off : Nat) : Loc := Loc.put 0 (.ptr id off) Lany
theorem Lone_get (id off t : Nat) (ht : t < 256) : (Lone id off).get t = if t = 0 then .ptr id off else .any := by
  unfold Lone
  rw [Loc.get_put t 0 ht (by omega)]
  split
  · rfl
  · show (selOf (t % 16)).sel ((selOf (t / 16)).sel (N16.rep (N16.rep AV.any))) = _
    rw [sel_rep _ (by omega), sel_rep _ (by omega)]
/-- A part of code of which it is known what it does. -/
def CodeOk (P : Program) (η : Env) (base : Nat) (W : World) (nt : Nat) (c : Code) (k : Loc → Heap → Out) : Prop :=
  ∀ (L : Loc) (H : Heap) (out : Out) (ρ : Ren) (ρ0 : Ren) (n0 : Nat) (a : Act) (w : World), k L H = out → out ≠ .fail → St η base W nt ρ0 n0 ρ L H a w → c.wp P (After η base W nt ρ0 n0 out) a w
theorem seq_ok {x y : Code} {kx ky : Loc → Heap → Out} (hx : CodeOk P η base W nt x kx) (hy : CodeOk P η base W nt y ky) : CodeOk P η base W nt (.seq x y) fun L H => Out.rec ky .exit .ret .fail (kx L H) := by
  intro L H out ρ ρ0 n0 a w h hn hS
  apply wp_seq
  cases ho : kx L H with
  | fail => simp only [ho] at h; exact absurd h.symm hn
  | norm L1 H1 =>
    simp only [ho] at h
    refine wp_mono (hx L H _ ρ ρ0 n0 a w ho (by simp) hS) fun e a w he => ?_
    cases e with
    | normal =>
      obtain ⟨L2, H2, ρ2, h1, h2⟩ := he
      injection h1 with h1 h3
      subst h1
      subst h3
      exact hy L1 H1 out ρ2 ρ0 n0 a w h hn h2
    | exit id => obtain ⟨_, _, _, h1, _⟩ := he; cases h1
    | ret => obtain ⟨_, _, _, h1, _⟩ := he; cases h1
    | goto l => exact he.elim
    | panic ch => exact he.elim
    | outgrown => exact he.elim
  | exit i L1 H1 =>
    simp only [ho] at h
    subst h
    refine wp_mono (hx L H _ ρ ρ0 n0 a w ho (by simp) hS) fun e a w he => ?_
    cases e with
    | normal => obtain ⟨_, _, _, h1, _⟩ := he; cases h1
    | _ => exact he
  | ret L1 H1 =>
    simp only [ho] at h
    subst h
    refine wp_mono (hx L H _ ρ ρ0 n0 a w ho (by simp) hS) fun e a w he => ?_
    cases e with
    | normal => obtain ⟨_, _, _, h1, _⟩ := he; cases h1
    | _ => exact he
theorem codeC_ok {cb : CB} (hm : P.follows .mixedOrders = true) (ht : nt ≤ 256) (hη : Leaves η) (hcb : CBok P η base W cb) (c : Code) : CodeOk P η base W nt c fun L H => (codeC P nt c).run cb L H :=
  fun L H out ρ ρ0 n0 a w h hn hS => code_ok hm ht hη hcb c L H out ρ a w h hn hS
/-- What the loop of Sync makes. -/
noncomputable def syncK (P : Program) (nt : Nat) (l7 : List Oper) (tmap : Nat) (L : Loc) (H : Heap) : Out :=
  Option.rec .fail (fun L7 => VP.rec .fail .fail (fun id off => VM.rec .fail .fail (fun m => Option.rec .fail (fun c0 => VL.rec .fail .fail (fun si so ls _ => Option.rec .fail (fun l => Option.rec .fail (fun o => Option.rec .fail
    (fun oF => Bool.rec .fail (.norm (Lone id off) (H.put si oF)) (and' (keysNe l) (and' (not' (Nat.beq m si)) (not' (Nat.beq id si)))))
    (syncO so ls l o)) (H.ob si)) (H.mp m)) (fun _ _ _ _ => .fail) c0.vl) (H.cell id off)) ((gOf (.tmp tmap)).g L7).vm) ((gOf (.tmp 0)).g L7).vp) (looksC P nt H l7 L)
theorem vmrec_fail {x : VM} {f : Nat → Out} {out : Out} (h : (VM.rec .fail .fail f x : Out) = out) (hn : out ≠ .fail) : ∃ m, x = .map m ∧ f m = out := by
  cases x <;> first | exact absurd h.symm hn | exact ⟨_, rfl, h⟩
theorem vprec_fail {x : VP} {f : Nat → Nat → Out} {out : Out} (h : (VP.rec .fail .fail f x : Out) = out) (hn : out ≠ .fail) : ∃ i o, x = .ptr i o ∧ f i o = out := by
  cases x <;> first | exact absurd h.symm hn | exact ⟨_, _, rfl, h⟩
theorem vlrec_fail {x : VL} {f : Nat → Nat → Nat → Nat → Out} {out : Out} (h : (VL.rec .fail .fail f (fun _ _ _ _ => .fail) x : Out) = out) (hn : out ≠ .fail) : ∃ i o l c, x = .sl i o l c ∧ f i o l c = out := by
  cases x <;> first | exact absurd h.symm hn | exact ⟨_, _, _, _, rfl, h⟩
theorem orec_fail' {α : Type} {x : Option α} {f : α → Out} {out : Out} (h : (Option.rec .fail f x : Out) = out) (hn : out ≠ .fail) : ∃ v, x = some v ∧ f v = out := by
  cases x with
  | none => exact absurd h.symm hn
  | some v => exact ⟨v, rfl, h⟩
theorem not'_beq {a b : Nat} (h : not' (Nat.beq a b) = true) : a ≠ b := by
  rintro rfl
  rw [Nat.beq_refl] at h
  cases h
theorem sync_code {it x c y b0 b1 i7 i8 i9 i10 tmap tm kt et : Nat} {oR oN oE oY oS : Oper} {l7 l9 l10 : List Oper} {ops7 ops9 ops10 : Array Oper} {ty : TypeId} {xa xv : Operand} (ht : nt ≤ 256) (hη : Leaves η)
    (h7 : ops7 = (l7 ++ [oR]).toArray) (hR : oR.op = .range tm (.tmp tmap)) (hRd : oR.dst = some it) (hRg : oR.guard = none) (hum : P.underlying tm = some (.map kt et)) (hit : it < nt)
    (hN : oN.op = .next (.tmp it) false) (hNd : oN.dst = some x) (hNg : oN.guard = none) (hE : oE.op = .extract (.tmp x) 0) (hEd : oE.dst = some c) (hEg : oE.guard = none)
    (hY : oY.op = .entry (.tmp it)) (hYd : oY.dst = some y) (hYg : oY.guard = none) (hS : oS.op = .store ty xa xv) (hSd : oS.dst = none) (hSg : oS.guard = none) (hzy : szOf P ty = some 1)
    (h9 : ops9 = (oY :: l9).toArray) (h10 : ops10 = (l10 ++ [oS]).toArray) (hx : x < nt) (hc : c < nt) (hy : y < nt)
    (hfree : ∀ t, (t = it ∨ t = 0) → t ≠ x ∧ t ≠ c ∧ t ≠ y ∧ ∀ o ∈ l9 ++ l10, o.dst ≠ some t) (hit0 : it ≠ 0)
    (hbody : ∀ (id off si so ls cp : Nat) (H' : Heap) (p : AV × AV) (k : Nat), H'.cell id off = some (.sl si so ls cp) → p.1.vx = some k → k < ls → ∃ L9 L10, looksC P nt H' l9 ((putC (some y)).put (.tup [p.1, p.2]) (Lone id off)) = some L9 ∧ looksC P nt H' l10 L9 = some L10 ∧ (gOf xa).g L10 = .ptr si (so + k) ∧ (gOf xv).g L10 = p.2) :
    CodeOk P η base W nt (.seq (.region i7 ops7 false) (.block b0 (.loop (.seq (.region i8 #[oN, oE] false) (.seq (.cond (.tmp c) .skip (.exit b0)) (.block b1 (.seq (.region i9 ops9 false) (.region i10 ops10 false)))))))) fun L H => syncK P nt l7 tmap L H := by
  intro L H out ρ ρ0 n0 a w h hn hst
  obtain ⟨L7, e1, h⟩ := orec_fail' h hn
  obtain ⟨id, off, e2, h⟩ := vprec_fail h hn
  obtain ⟨m, e3, h⟩ := vmrec_fail h hn
  obtain ⟨c0, e4, h⟩ := orec_fail' h hn
  obtain ⟨si, so, ls, cp, e5, h⟩ := vlrec_fail h hn
  obtain ⟨l, e6, h⟩ := orec_fail' h hn
  obtain ⟨o, e7, h⟩ := orec_fail' h hn
  obtain ⟨oF, e8, h⟩ := orec_fail' h hn
  obtain ⟨e9, h⟩ := brec_fail h hn
  subst h
  rw [and'_eq, and'_eq, Bool.and_eq_true, Bool.and_eq_true] at e9
  obtain ⟨e10, e11, e12⟩ := e9
  have e11 := not'_beq e11
  have e12 := not'_beq e12
  obtain rfl := vl_sl e5
  apply wp_seq
  apply wp_region
  rw [h7]
  have hsz7 : (l7 ++ [oR]).toArray.size = l7.length + 1 := by simp
  rw [hsz7, List.range_eq_range', ← List.range'_append_1]
  refine looks_wp (P := P) (ops := (l7 ++ [oR]).toArray) ht hη hst.sim l7 0 L L7 a (fun j o' hj => by
    have := (List.getElem?_eq_some_iff.1 hj).1
    simp [List.getElem?_append_left this, hj]) e1 hst.loc hst.size ?_
  intro a7 g1 g2 g3
  obtain ⟨p1, p2⟩ := tells_ptr (gOf_sound g1 (.tmp 0)) e2
  obtain ⟨m1, m2⟩ := vm_tells (gOf_sound g1 (.tmp tmap)) e3
  obtain ⟨c1, c2, c3⟩ := hst.sim.cell p2 e4
  obtain ⟨hwf, es, clock, q1, q2, q3⟩ := hst.sim.mp m2 e6
  have hsi : si < H.nx := by cases c2; assumption
  rw [show List.range' (0 + l7.length) 1 = [l7.length] by simp]
  unfold wpOps
  have hoR : (l7 ++ [oR]).toArray[l7.length]? = some oR := by simp
  simp only [hoR]
  rw [if_pos (by simp [Region.wanted, hRg])]
  left
  unfold Oper.wp
  have er : (execOp a7.eval oR).run P w = .ok (.value (.pointer (some ⟨w.heap.size, 0, none⟩))) (w.alloc (.mapIter (some (ρ.b m)) clock #[] clock)) := by
    simp only [execOp, hR]
    apply run_vw
    rw [m1]
    have hget : (getObj (ρ.b m)).run P w = .ok (.map es clock) w := by simp [getObj, Sem.run, q1]
    simp [Instr.range, run_underlying hum, hget]
  rw [er, Oper.upon_value, hRd]
  unfold wpOps
  show (Code.block b0 _).wp P _ _ _
  apply wp_block
  have hmlt : ρ.b m < w.heap.size := (Array.getElem?_eq_some_iff.1 q1).1
  have hal : ∀ k, k < w.heap.size → (w.alloc (.mapIter (some (ρ.b m)) clock #[] clock)).heap[k]? = w.heap[k]? := fun k hk => heap_alloc_lt _ _ hk
  have hL7 : LocOk η ρ H.nx (Lone id off) a7 := g1.less fun t ht' => by
    rw [Lone_get id off t ht']
    by_cases h0 : t = 0
    · subst h0
      rw [if_pos rfl]
      right
      have : (gOf (.tmp 0)).g L7 = L7.get 0 := by simp only [gOf, if_pos (by decide : 0 < 256)]; rfl
      rw [← this, vp_ptr e2]
    · rw [if_neg h0]; exact .inl rfl
  have hfr' : ∀ t, (t = it ∨ (t < 256 ∧ (Lone id off).get t ≠ .any)) → (t = it ∨ t = 0) := fun t h => h.imp (fun e => e) fun ⟨h1, h2⟩ => by
    rw [Lone_get id off t h1] at h2
    by_cases h0 : t = 0
    · exact h0
    · rw [if_neg h0] at h2; exact absurd rfl h2
  have := sync_loop (P := P) (w := w.alloc (.mapIter (some (ρ.b m)) clock #[] clock)) (r := w.heap.size) (a := a7.put (some it) (.pointer (some ⟨w.heap.size, 0, none⟩))) (b0 := b0) (b1 := b1) (i8 := i8) (i9 := i9) (i10 := i10) (Lc := Lone id off) ht hη hN hNd hNg hE hEd hEg hY hYd hYg hS hSd hSg hzy h9 h10 hx hc hy
    (fun t h => hfree t (hfr' t h)) m2 e6 hsi e7 e11 p2 e12 (keysNe_ok e10) e8
    (fun H' p k h1 h2 h3 => hbody id off si so ls cp H' p k (by rw [h1]; exact e4) h2 h3)
    (hst.sim.grow rfl rfl rfl rfl) hst.sim.hb (fun i oi hi hoi => by have := (hst.sim.ob i oi hi hoi).2.lt; omega) (by
      show (w.heap.push _)[w.heap.size]? = _
      simp) (by rw [hal _ hmlt]; exact q1) q2 q3
    (hL7.frame hL7.defers fun t h6 hne => put_ne _ _ _ _ (by
      rintro rfl
      rw [Lone_get id off it h6, if_neg hit0] at hne
      exact hne rfl)) (by rw [put_size]; exact g2) (put_get _ _ _ (by rw [g2]; exact hit))
  refine wp_mono this ?_
  rintro e a w ⟨rfl, s1, s2, s3⟩
  show (if b0 = b0 then _ else _)
  rw [if_pos rfl]
  exact ⟨_, _, ρ, rfl, s1, s2, s3, hst.ext, hst.le⟩
/-- Sync, as the evaluator takes it. -/
noncomputable def syncFn (P : Program) (fn : Func) (R0 A1 A2 Post : Code) (l7 : List Oper) (tmap : Nat) : FnC :=
  ⟨fun cb args H => Bool.rec .none (Out.rec (fun L H => (outC P fn.results).out L H) (fun _ _ _ => .none) (fun L H => (outC P fn.results).out L H) .none
    (Out.rec (fun L H => Out.rec (fun L H => Out.rec (fun L H => Out.rec (fun L H => (codeC P fn.ntmps Post).run cb L H) .exit .ret .fail (syncK P fn.ntmps l7 tmap L H)) .exit .ret .fail ((codeC P fn.ntmps A2).run cb L H)) .exit .ret .fail ((codeC P fn.ntmps A1).run cb L H)) .exit .ret .fail ((codeC P fn.ntmps R0).run cb (argsIn args L0) H))) (Nat.ble (len args) fn.ntmps)⟩
theorem syncFn_ok {fn : Func} {f : Nat} {R0 A1 A2 Lp Post : Code} {l7 : List Oper} {tmap : Nat} {cb : CB} {args : List AV} {v : AV} (hD : η.D = []) (hm : P.follows .mixedOrders = true) (ht : fn.ntmps ≤ 256) (hη : Leaves η) (hcb : CBok P η base W cb) (hf : P.funcs[f]? = some fn)
    (hb : fn.body = some (.seq R0 (.seq A1 (.seq A2 (.seq Lp Post))))) (hLp : CodeOk P η base W fn.ntmps Lp fun L H => syncK P fn.ntmps l7 tmap L H)
    (h : (syncFn P fn R0 A1 A2 Post l7 tmap).run cb args H = .some v H') (hS : Sim η base W ρ H w) (hw : ∀ x ∈ args, Wf ρ H.nx x) : Calls P f (args.map (val ρ η)).toArray w fun e w' =>
      ∃ ρ', e = .returned (val ρ' η v) ∧ Ext ρ ρ' H.nx ∧ H.nx ≤ H'.nx ∧ Sim η base W ρ' H' w' ∧ Wf ρ' H'.nx v := by
  have hR := seq_ok (codeC_ok hm ht hη hcb R0) (seq_ok (codeC_ok hm ht hη hcb A1) (seq_ok (codeC_ok hm ht hη hcb A2) (seq_ok hLp (codeC_ok hm ht hη hcb Post))))
  exact fn_ok hD ht hη hf hb (fun L H out ρ n0 a w h hn hS => hR L H out ρ ρ n0 a w h hn hS) h hS hw
/-- A text of so many zero bytes. -/
noncomputable def repFn : FnC := ⟨fun _ a H => match a with | [.str l n, .i64 k] => Bool.rec .none (.some (.str (Nat.mul l k) 0) H) (and' (Nat.beq n 0) (and' (Nat.ble (Nat.mul l k) 1000000000) (Nat.ble k 1000000000))) | _ => .none⟩
/-- A world that only grew. -/
theorem Sim.later (h : Sim η base W ρ H w) (hb : Below w.heap.size w w') : Sim η base W ρ H w' := by
  refine ⟨h.lt, fun j oj hj hoj => ?_, h.inj, h.below.trans (hb.mono h.hb), Nat.le_trans h.hb hb.size⟩
  obtain ⟨g1, g2⟩ := h.ob j oj hj hoj
  exact ⟨g1, g2.ext (Ext.refl _ _) (Nat.le_refl _) hj (hb.block _ g2.lt)⟩
theorem map_zero_range (l : Nat) : (List.range l).map (fun _ => (0 : UInt8)) = List.replicate l 0 := by
  apply List.ext_getElem?
  intro i
  rw [List.getElem?_map, List.getElem?_replicate]
  by_cases h : i < l
  · rw [List.getElem?_eq_getElem (by simpa using h), if_pos h]; rfl
  · rw [List.getElem?_eq_none (by simpa using h), if_neg h]; rfl
theorem bytesOf_zero (l : Nat) : bytesOf l 0 = List.replicate l 0 := by
  have h : byteAt l 0 = fun _ => 0 := by funext i; simp [byteAt]
  unfold bytesOf
  rw [h]
  exact map_zero_range l
theorem repeatL_zero (l : Nat) : ∀ k, Lib.repeatL (List.replicate l (0 : UInt8)) k = List.replicate (l * k) 0
  | 0 => rfl
  | k + 1 => by
    rw [Lib.repeatL, repeatL_zero l k, List.replicate_append_replicate]
    congr 1
    rw [Nat.mul_succ]
    omega
theorem repFn_ok {f : Nat} {cb : CB} {args : List AV} {v : AV} (hrep : ∀ (s : ByteArray) (c : Nat) (w : World), c ≤ 9223372036854775807 → s.size * c ≤ 140737488355328 → Calls P f #[.string s, .int .i64 c] w fun e w' => e = .returned (.string ⟨(Lib.repeatL s.data.toList c).toArray⟩) ∧ Below w.heap.size w w')
    (h : repFn.run cb args H = .some v H') (hS : Sim η base W ρ H w) (hw : ∀ x ∈ args, Wf ρ H.nx x) : Calls P f (args.map (val ρ η)).toArray w fun e w' =>
      ∃ ρ', e = .returned (val ρ' η v) ∧ Ext ρ ρ' H.nx ∧ H.nx ≤ H'.nx ∧ Sim η base W ρ' H' w' ∧ Wf ρ' H'.nx v := by
  unfold repFn at h
  simp only at h
  split at h
  · rename_i l n k
    obtain ⟨h1, h2⟩ := bres_some h
    injection h2 with h2 h3
    subst h2
    subst h3
    rw [and'_eq, and'_eq, Bool.and_eq_true, Bool.and_eq_true] at h1
    obtain ⟨h4, h5, h6⟩ := h1
    obtain rfl := Nat.eq_of_beq_eq_true h4
    have h5 : l * k ≤ 1000000000 := Nat.le_of_ble_eq_true h5
    have h6 : k ≤ 1000000000 := Nat.le_of_ble_eq_true h6
    have hc := hrep ⟨(bytesOf l 0).toArray⟩ k w (by omega) (by
      rw [bytesOf_zero]
      show (List.replicate l (0 : UInt8)).toArray.size * k ≤ _
      simp
      omega)
    have ha : (List.map (val ρ η) [.str l 0, .i64 k]).toArray = #[.string ⟨(bytesOf l 0).toArray⟩, .int .i64 k] := by
      simp only [List.map_cons, List.map_nil, val, iv64]
      rw [if_pos (by omega)]
    rw [ha]
    refine hc.mono ?_
    rintro e w' ⟨rfl, hb⟩
    refine ⟨ρ, ?_, Ext.refl _ _, Nat.le_refl _, hS.later hb, .str (Nat.two_pow_pos _)⟩
    simp only [val]
    congr 2
    show (ByteArray.mk (Lib.repeatL (bytesOf l 0).toArray.toList k).toArray) = ByteArray.mk (bytesOf (l * k) 0).toArray
    rw [bytesOf_zero, bytesOf_zero, List.toList_toArray, repeatL_zero]
  · cases h
end
end Go.Proofs.YtddcgoopgnogeaaGreatDoor.Ev
namespace Go.Proofs.YtddcgoopgnogeaaGreatDoor.Ev
open Go.RowKit (Below)
set_option linter.unusedVariables false
section
variable {P : Program} {η : Env} {base : Nat} {W w w' : World} {H H' : Heap}
def ren0 : Ren := ⟨fun _ => 0, fun _ => 0, fun _ => 0⟩
theorem sim0 (w : World) : Sim η w.heap.size w ren0 H0 w :=
  ⟨by decide, fun id o hid _ => absurd hid (Nat.not_lt_zero _), fun i j oi oj hi _ _ _ _ => absurd hi (Nat.not_lt_zero _), Below.refl _ _, Nat.le_refl _⟩
/-- What the evaluator told of a call from nothing, the call does in every world. -/
theorem calls_of_ev {sp : Nat → Option FnC} {n f : Nat} {args : List AV} {v : AV} (hD : η.D = []) (hm : P.follows .mixedOrders = true) (hη : Leaves η) (hsp : ∀ (base : Nat) (W : World), SpOk P η base W sp) (hw : ∀ x ∈ args, Wf ren0 0 x) (h : evFn P sp n f args H0 = .some v H') (w : World) :
    Calls P f (args.map (val ren0 η)).toArray w fun e w' => (∃ ρ', e = .returned (val ρ' η v)) ∧ Below w.heap.size w w' := by
  obtain ⟨_, h1⟩ := evFn_ok (base := w.heap.size) (W := w) hD hm hη (hsp _ _) n f args H0 v H' h
  refine (h1 ren0 w (sim0 w) hw).mono ?_
  rintro e w' ⟨ρ', rfl, _, _, hS, _⟩
  exact ⟨⟨ρ', rfl⟩, hS.below⟩
/-- A function that is known to answer true, and to turn nothing. -/
noncomputable def trueFn : FnC := ⟨fun _ a H => match a with | [] => .some (.bool true) H | _ => .none⟩
theorem trueFn_ok {f : Nat} {ρ : Ren} {cb : CB} {args : List AV} {v : AV} (hc : ∀ w, Calls P f #[] w fun e w' => e = .returned (.bool true) ∧ Below w.heap.size w w')
    (h : trueFn.run cb args H = .some v H') (hS : Sim η base W ρ H w) (hw : ∀ x ∈ args, Wf ρ H.nx x) : Calls P f (args.map (val ρ η)).toArray w fun e w' =>
      ∃ ρ', e = .returned (val ρ' η v) ∧ Ext ρ ρ' H.nx ∧ H.nx ≤ H'.nx ∧ Sim η base W ρ' H' w' ∧ Wf ρ' H'.nx v := by
  unfold trueFn at h
  simp only at h
  split at h
  · injection h with h2 h3
    subst h2
    subst h3
    refine (hc w).mono ?_
    rintro e w' ⟨rfl, hb⟩
    exact ⟨ρ, rfl, Ext.refl _ _, Nat.le_refl _, hS.later hb, .bool true⟩
  · cases h
end
end Go.Proofs.YtddcgoopgnogeaaGreatDoor.Ev
namespace Go.Proofs.YtddcgoopgnogeaaGreatDoor.Ev
open Go.Proofs Go.RowKit Go.Maps Go.Sort Go.Shelf
set_option linter.unusedVariables false
variable {P : Program} {ρ : Go.Shelf.Ren}
theorem range_empty {t k e : TypeId} (ht : P.underlying t = some (.map k e)) {w : World} {b clock : Nat} (hb : w.heap[b]? = some (.map #[] clock)) :
    (Instr.range t (.map (some b))).run P w = .ok (.pointer (some ⟨w.heap.size, 0, none⟩)) (w.alloc (.mapIter (some b) clock #[] clock)) := by
  have hget : (getObj b).run P w = .ok (.map #[] clock) w := by simp [getObj, Sem.run, hb]
  simp [Instr.range, run_underlying ht, hget]
theorem next_empty {w : World} {b clock : Nat} (hb : w.heap[b]? = some (.map #[] clock)) (ty : TypeId) :
    (Instr.next (.pointer (some ⟨w.heap.size, 0, none⟩)) false ty).run P (w.alloc (.mapIter (some b) clock #[] clock)) = .ok (.tuple #[.bool false]) (w.alloc (.mapIter (some b) clock #[] clock)) := by
  have hlt : b < w.heap.size := (Array.getElem?_eq_some_iff.1 hb).1
  rcases run_next_at (P := P) (w.alloc (.mapIter (some b) clock #[] clock)) ty w.heap.size b clock clock #[] #[] clock (heap_alloc_new _ _) (by rw [heap_alloc_lt _ _ hlt]; exact hb) (fun x hx => by cases hx) (Nat.le_refl _) with ⟨_, h⟩ | ⟨e, he, _⟩
  · exact h
  · simp [leftOf] at he
set_option maxRecDepth 100000 in
set_option maxHeartbeats 1000000 in
theorem keysE_in (L : SlLaysZI.n10 P ρ) (F : Fence) (n : Nat) (h10 : F.fn (ρ.f 10)) (hro : F.round = none) (l Bm o b clock : Nat) (J : List Int → World → Prop) (W : World) (hJ : AbidesFrom W.heap.size J)
    (hm : W.cell? ⟨Bm, o, none⟩ = some (.map (some b))) (hb : W.heap[b]? = some (.map #[] clock)) (h0 : J [] W) :
    CallsIn F n P (ρ.f 10) #[.func (.yield l) #[] #[], .pointer (some ⟨Bm, o, none⟩)] W fun e W' => (∃ v, e = .returned v) ∧ ∃ ss : List Int, ss = [] ∧ J ss W' := by
  have mixed := L.mixed; have t0 := L.t0; have a0 := L.a0; have z0 := L.z0; have v0 := L.v0; have t4 := L.t4; have a4 := L.a4; have z4 := L.z4; have v4 := L.v4; have t23 := L.t23; have a23 := L.a23; have z23 := L.z23; have v23 := L.v23; have t26 := L.t26; have a26 := L.a26; have z26 := L.z26; have v26 := L.v26; have t33 := L.t33; have a33 := L.a33; have z33 := L.z33; have v33 := L.v33
  have u0 := run_underlying L.t0; have u4 := run_underlying L.t4; have u23 := run_underlying L.t23; have u26 := run_underlying L.t26; have u33 := run_underlying L.t33
  obtain ⟨_, _, FG⟩ := L.f10
  refine callsIn_of_wp FG rfl h10 ?_ hro
  simp only [SlBodyZ.n10_ntmps ρ, List.size_toArray, List.length_cons, List.length_nil, Nat.reduceAdd, Nat.reduceSub, Array.replicate_succ, Array.replicate_zero, List.push_toArray, List.append_toArray, List.nil_append, List.cons_append]
  have hrg := range_empty (P := P) L.t23 hb
  have hnx := fun ty => next_empty (P := P) hb ty
  gi_wp2
  refine wpIn_loop_rounds 1 ?_
  rw [roundsIn_succ]
  gi_wp2
  go_end0
  exact ⟨⟨_, rfl⟩, [], rfl, hJ [] W _ none h0 (World.grownBy_alloc W _ none) (fun r e => by cases e)⟩
set_option maxRecDepth 100000 in
set_option maxHeartbeats 1000000 in
theorem keysES_in (L : SlLaysZ.n10 P ρ) (F : Fence) (n : Nat) (h10 : F.fn (ρ.f 10)) (hro : F.round = none) (l Bm o b clock : Nat) (J : List (List UInt8) → World → Prop) (W : World) (hJ : AbidesFrom W.heap.size J)
    (hm : W.cell? ⟨Bm, o, none⟩ = some (.map (some b))) (hb : W.heap[b]? = some (.map #[] clock)) (h0 : J [] W) :
    CallsIn F n P (ρ.f 10) #[.func (.yield l) #[] #[], .pointer (some ⟨Bm, o, none⟩)] W fun e W' => (∃ v, e = .returned v) ∧ ∃ ss : List (List UInt8), ss = [] ∧ J ss W' := by
  have mixed := L.mixed; have t0 := L.t0; have a0 := L.a0; have z0 := L.z0; have v0 := L.v0; have t4 := L.t4; have a4 := L.a4; have z4 := L.z4; have v4 := L.v4; have t23 := L.t23; have a23 := L.a23; have z23 := L.z23; have v23 := L.v23; have t26 := L.t26; have a26 := L.a26; have z26 := L.z26; have v26 := L.v26; have t33 := L.t33; have a33 := L.a33; have z33 := L.z33; have v33 := L.v33
  have u0 := run_underlying L.t0; have u4 := run_underlying L.t4; have u23 := run_underlying L.t23; have u26 := run_underlying L.t26; have u33 := run_underlying L.t33
  obtain ⟨_, _, FG⟩ := L.f10
  refine callsIn_of_wp FG rfl h10 ?_ hro
  simp only [SlBodyZ.n10_ntmps ρ, List.size_toArray, List.length_cons, List.length_nil, Nat.reduceAdd, Nat.reduceSub, Array.replicate_succ, Array.replicate_zero, List.push_toArray, List.append_toArray, List.nil_append, List.cons_append]
  have hrg := range_empty (P := P) L.t23 hb
  have hnx := fun ty => next_empty (P := P) hb ty
  gi_wp2
  refine wpIn_loop_rounds 1 ?_
  rw [roundsIn_succ]
  gi_wp2
  go_end0
  exact ⟨⟨_, rfl⟩, [], rfl, hJ [] W _ none h0 (World.grownBy_alloc W _ none) (fun r e => by cases e)⟩
/-- An iterator over the keys of a map that has none. -/
theorem keysE_gives (L : SlLaysZI.n10 P ρ) (n Bm o b clock : Nat) (w : World) (hBm : Bm < w.heap.size) (hbl : b < w.heap.size) (hm : w.cell? ⟨Bm, o, none⟩ = some (.map (some b))) (hb : w.heap[b]? = some (.map #[] clock)) :
    SeqGives Fence.wide n P (ρ.f 10) #[.pointer (some ⟨Bm, o, none⟩)] encZ (fun ss : List Int => ss = []) 0 w := fun l J W hW hJ _ h0 =>
  keysE_in { L with } Fence.wide n trivial rfl l Bm o b clock J W hJ ((hW.cell (p := ⟨Bm, o, none⟩) hBm).trans hm) ((hW.block b hbl).trans hb) h0
theorem keysES_gives (L : SlLaysZ.n10 P ρ) (n Bm o b clock : Nat) (w : World) (hBm : Bm < w.heap.size) (hbl : b < w.heap.size) (hm : w.cell? ⟨Bm, o, none⟩ = some (.map (some b))) (hb : w.heap[b]? = some (.map #[] clock)) :
    SeqGives Fence.wide n P (ρ.f 10) #[.pointer (some ⟨Bm, o, none⟩)] encStr (fun ss : List (List UInt8) => ss = []) 0 w := fun l J W hW hJ _ h0 =>
  keysES_in { L with } Fence.wide n trivial rfl l Bm o b clock J W hJ ((hW.cell (p := ⟨Bm, o, none⟩) hBm).trans hm) ((hW.block b hbl).trans hb) h0
/-- slices.Sorted of the keys of a map that has none. -/
theorem sortedE {ρ6 ρ10 : Go.Shelf.Ren} (L6 : SlLaysZI.n6 P ρ6) (L10 : SlLaysZI.n10 P ρ10) (hsort : ∀ m, AnyZI.SortsIn P ρ6 Fence.wide m) (e9 : ∀ args w, (callFunc (ρ6.f 9) args).run P w = .ok (.enter (ρ6.f 9) args) w) (eg : ∀ args w, (callFunc (ρ10.f 10) args).run P w = .ok (.enter (ρ10.f 10) args) w)
    (Bm o b clock : Nat) (w : World) (hm : w.cell? ⟨Bm, o, none⟩ = some (.map (some b))) (hb : w.heap[b]? = some (.map #[] clock)) :
    Calls P (ρ6.f 6) #[.func (.func (ρ10.f 10)) #[] #[.pointer (some ⟨Bm, o, none⟩)]] w fun e w' => e = .returned (.slice none 0 0) ∧ Below w.heap.size w w' := by
  have hbl : b < w.heap.size := (Array.getElem?_eq_some_iff.1 hb).1
  have hBm : Bm < w.heap.size := by
    apply Decidable.byContradiction
    intro h
    have : w.heap[Bm]? = none := Array.getElem?_eq_none (by omega)
    simp [World.cell?, this] at hm
  have := AnyZI.sorted_in L6 Fence.wide 5 trivial trivial trivial trivial rfl (by omega) (hsort _) e9 (ρ10.f 10) #[.pointer (some ⟨Bm, o, none⟩)] trivial eg _ 0 (Nat.zero_le _) (by omega) w (keysE_gives L10 _ Bm o b clock w hBm hbl hm hb)
  refine (callsIn_wide.1 this).mono ?_
  rintro e w' ⟨v, ss, rfl, rfl, _, hnil, hbel⟩
  exact ⟨by rw [hnil.2 rfl], hbel⟩
theorem sortedES {ρ6 ρ10 : Go.Shelf.Ren} (L6 : SlLaysZ.n6 P ρ6) (L10 : SlLaysZ.n10 P ρ10) (hsort : ∀ m, AnyZ.SortsIn P ρ6 Fence.wide m) (e9 : ∀ args w, (callFunc (ρ6.f 9) args).run P w = .ok (.enter (ρ6.f 9) args) w) (eg : ∀ args w, (callFunc (ρ10.f 10) args).run P w = .ok (.enter (ρ10.f 10) args) w)
    (Bm o b clock : Nat) (w : World) (hm : w.cell? ⟨Bm, o, none⟩ = some (.map (some b))) (hb : w.heap[b]? = some (.map #[] clock)) :
    Calls P (ρ6.f 6) #[.func (.func (ρ10.f 10)) #[] #[.pointer (some ⟨Bm, o, none⟩)]] w fun e w' => e = .returned (.slice none 0 0) ∧ Below w.heap.size w w' := by
  have hbl : b < w.heap.size := (Array.getElem?_eq_some_iff.1 hb).1
  have hBm : Bm < w.heap.size := by
    apply Decidable.byContradiction
    intro h
    have : w.heap[Bm]? = none := Array.getElem?_eq_none (by omega)
    simp [World.cell?, this] at hm
  have := AnyZ.sorted_in L6 Fence.wide 5 trivial trivial trivial trivial rfl (by omega) (hsort _) e9 (ρ10.f 10) #[.pointer (some ⟨Bm, o, none⟩)] trivial eg _ 0 (Nat.zero_le _) (by omega) w (keysES_gives L10 _ Bm o b clock w hBm hbl hm hb)
  refine (callsIn_wide.1 this).mono ?_
  rintro e w' ⟨v, ss, rfl, rfl, _, hnil, hbel⟩
  exact ⟨by rw [hnil.2 rfl], hbel⟩
/-- slices.Sorted at an iterator over the keys of a map that has none, as the evaluator takes it. -/
noncomputable def sortedFn (it : Nat) : FnC := ⟨fun _ a H => match a with
  | [.fn f [.ptr id off]] => Bool.rec .none (Option.rec .none (fun c => VM.rec .none .none (fun m => Option.rec .none (fun l => List.rec (.some .nils H) (fun _ _ _ => .none) l) (H.mp m)) c.vm) (H.cell id off)) (Nat.beq f it)
  | _ => .none⟩
section
variable {η : Env} {base : Nat} {W w w' : World} {ρ : Go.Proofs.YtddcgoopgnogeaaGreatDoor.Ev.Ren} {H H' : Heap}
theorem sortedFn_ok {f it : Nat} {cb : CB} {args : List AV} {v : AV} (hE : ∀ (Bm o b clock : Nat) (w : World), w.cell? ⟨Bm, o, none⟩ = some (.map (some b)) → w.heap[b]? = some (.map #[] clock) → Calls P f #[.func (.func it) #[] #[.pointer (some ⟨Bm, o, none⟩)]] w fun e w' => e = .returned (.slice none 0 0) ∧ Below w.heap.size w w')
    (h : (sortedFn it).run cb args H = .some v H') (hS : Sim η base W ρ H w) (hw : ∀ x ∈ args, Wf ρ H.nx x) : Calls P f (args.map (val ρ η)).toArray w fun e w' =>
      ∃ ρ', e = .returned (val ρ' η v) ∧ Ext ρ ρ' H.nx ∧ H.nx ≤ H'.nx ∧ Sim η base W ρ' H' w' ∧ Wf ρ' H'.nx v := by
  unfold sortedFn at h
  simp only at h
  split at h
  · rename_i g id off
    obtain ⟨h1, h2⟩ := bres_some h
    obtain rfl := Nat.eq_of_beq_eq_true h1
    obtain ⟨c, h3, h4⟩ := ores_some h2
    obtain ⟨m, h5, h6⟩ := vmres_some h4
    obtain ⟨l, h7, h8⟩ := ores_some h6
    cases l with
    | cons p l => cases h8
    | nil =>
      injection h8 with h9 h10
      subst h9
      subst h10
      have hid : id < H.nx := by
        have := hw _ List.mem_cons_self
        cases this with
        | fn hf =>
          have := hf _ List.mem_cons_self
          cases this
          assumption
      obtain ⟨c1, c2, c3⟩ := hS.cell hid h3
      obtain rfl := vm_map h5
      have hm : m < H.nx := by cases c2; assumption
      obtain ⟨_, es, clock, q1, q2, _⟩ := hS.mp hm h7
      have hes : es = #[] := by
        have : es.toList = [] := by
          have := congrArg List.length q2
          simpa [pairs] using this
        exact Array.toList_inj.1 this
      subst hes
      have ha : (List.map (val ρ η) [.fn g [.ptr id off]]).toArray = #[.func (.func g) #[] #[.pointer (some ⟨ρ.b id, ρ.d id + off, none⟩)]] := by simp [val, vals]
      rw [ha]
      refine (hE (ρ.b id) (ρ.d id + off) (ρ.b m) clock w (by simpa [val] using c1) q1).mono ?_
      rintro e w' ⟨rfl, hb⟩
      exact ⟨ρ, by simp [val], Ext.refl _ _, Nat.le_refl _, hS.later hb, .nils⟩
  · cases h
end
end Go.Proofs.YtddcgoopgnogeaaGreatDoor.Ev
namespace Go.Proofs.YtddcgoopgnogeaaGreatDoor.Ev
open Go.RowKit (Below)
set_option linter.unusedVariables false
section
variable {P : Program} {η : Env} {base : Nat} {W w w' : World} {ρ ρ' ρ0 ρ1 : Ren} {H H' : Heap} {L : Loc} {a : Act} {nx nx' n0 n1 nt : Nat}
/-- A loop over a map that holds nothing: what the evaluator makes of it. -/
noncomputable def rangeK (P : Program) (nt : Nat) (l7 : List Oper) (tmap it x c : Nat) (L : Loc) (H : Heap) : Out :=
  Option.rec .fail (fun L7 => VM.rec .fail .fail (fun m => Option.rec .fail (fun l => List.rec (.norm (Loc.put c .any (Loc.put x .any (Loc.put it .any L7))) H) (fun _ _ _ => .fail) l) (H.mp m)) ((gOf (.tmp tmap)).g L7).vm) (looksC P nt H l7 L)
theorem range_code {it x c b0 i7 i8 tmap tm kt et : Nat} {oR oN oE : Oper} {l7 : List Oper} {ops7 : Array Oper} {body : Code} (ht : nt ≤ 256) (hη : Leaves η)
    (h7 : ops7 = (l7 ++ [oR]).toArray) (hR : oR.op = .range tm (.tmp tmap)) (hRd : oR.dst = some it) (hRg : oR.guard = none) (hum : P.underlying tm = some (.map kt et)) (hit : it < nt)
    (hN : oN.op = .next (.tmp it) false) (hNd : oN.dst = some x) (hNg : oN.guard = none) (hE : oE.op = .extract (.tmp x) 0) (hEd : oE.dst = some c) (hEg : oE.guard = none) (hx : x < nt) (hc : c < nt) :
    CodeOk P η base W nt (.seq (.region i7 ops7 false) (.block b0 (.loop (.seq (.region i8 #[oN, oE] false) (.seq (.cond (.tmp c) .skip (.exit b0)) body))))) fun L H => rangeK P nt l7 tmap it x c L H := by
  intro L H out ρ ρ0 n0 a w h hn hst
  obtain ⟨L7, e1, h⟩ := orec_fail' h hn
  obtain ⟨m, e3, h⟩ := vmrec_fail h hn
  obtain ⟨l, e6, h⟩ := orec_fail' h hn
  cases l with
  | cons p l => exact absurd h.symm hn
  | nil =>
  subst h
  apply wp_seq
  apply wp_region
  rw [h7]
  have hsz7 : (l7 ++ [oR]).toArray.size = l7.length + 1 := by simp
  rw [hsz7, List.range_eq_range', ← List.range'_append_1]
  refine looks_wp (P := P) (ops := (l7 ++ [oR]).toArray) ht hη hst.sim l7 0 L L7 a (fun j o' hj => by
    have := (List.getElem?_eq_some_iff.1 hj).1
    simp [List.getElem?_append_left this, hj]) e1 hst.loc hst.size ?_
  intro a7 g1 g2 g3
  obtain ⟨m1, m2⟩ := vm_tells (gOf_sound g1 (.tmp tmap)) e3
  obtain ⟨hwf, es, clock, q1, q2, q3⟩ := hst.sim.mp m2 e6
  have hes : es = #[] := by
    have : es.toList = [] := by
      have := congrArg List.length q2
      simpa [pairs] using this
    exact Array.toList_inj.1 this
  subst hes
  rw [show List.range' (0 + l7.length) 1 = [l7.length] by simp]
  unfold wpOps
  have hoR : (l7 ++ [oR]).toArray[l7.length]? = some oR := by simp
  simp only [hoR]
  rw [if_pos (by simp [Region.wanted, hRg])]
  left
  unfold Oper.wp
  have er : (execOp a7.eval oR).run P w = .ok (.value (.pointer (some ⟨w.heap.size, 0, none⟩))) (w.alloc (.mapIter (some (ρ.b m)) clock #[] clock)) := by
    simp only [execOp, hR]
    apply run_vw
    rw [m1]
    exact range_empty hum q1
  rw [er, Oper.upon_value, hRd]
  unfold wpOps
  show (Code.block b0 _).wp P _ _ _
  apply wp_block
  have hmlt : ρ.b m < w.heap.size := (Array.getElem?_eq_some_iff.1 q1).1
  have hal : ∀ k, k < w.heap.size → (w.alloc (.mapIter (some (ρ.b m)) clock #[] clock)).heap[k]? = w.heap[k]? := fun k hk => heap_alloc_lt _ _ hk
  have hi6 : it < 256 := Nat.lt_of_lt_of_le hit ht
  have hx6 : x < 256 := Nat.lt_of_lt_of_le hx ht
  have hc6 : c < 256 := Nat.lt_of_lt_of_le hc ht
  have hLf : ∀ t, t < 256 → (Loc.put c .any (Loc.put x .any (Loc.put it .any L7))).get t = if t = c then .any else if t = x then .any else if t = it then .any else L7.get t := fun t ht' => by
    rw [Loc.get_put t c ht' hc6, Loc.get_put t x ht' hx6, Loc.get_put t it ht' hi6]
  have hL7 : LocOk η ρ H.nx (Loc.put c .any (Loc.put x .any (Loc.put it .any L7))) a7 := g1.less fun t ht' => by
    rw [hLf t ht']
    split
    · exact .inl rfl
    · split
      · exact .inl rfl
      · split
        · exact .inl rfl
        · exact .inr rfl
  have hne : ∀ t, t < 256 → (Loc.put c .any (Loc.put x .any (Loc.put it .any L7))).get t ≠ .any → t ≠ c ∧ t ≠ x ∧ t ≠ it := fun t h6 hh => by
    rw [hLf t h6] at hh
    refine ⟨fun e => ?_, fun e => ?_, fun e => ?_⟩
    · rw [if_pos e] at hh; exact hh rfl
    · by_cases h1 : t = c
      · rw [if_pos h1] at hh; exact hh rfl
      · rw [if_neg h1, if_pos e] at hh; exact hh rfl
    · by_cases h1 : t = c
      · rw [if_pos h1] at hh; exact hh rfl
      · by_cases h2 : t = x
        · rw [if_neg h1, if_pos h2] at hh; exact hh rfl
        · rw [if_neg h1, if_neg h2, if_pos e] at hh; exact hh rfl
  have := range_wp (P := P) (α := MapEntry) (es := #[]) (clock := clock) (mb := ρ.b m) (r := w.heap.size) (it := it) (x := x) (c := c) (b0 := b0) (i8 := i8) (oN := oN) (oE := oE) (body := body)
    (Q := fun e a w => e = .exit b0 ∧ Sim η base W ρ H w ∧ LocOk η ρ H.nx (Loc.put c .any (Loc.put x .any (Loc.put it .any L7))) a ∧ a.tmps.size = nt) [] id rfl ⟨by simp, by simp⟩ (by omega) hN hNd hNg hE hEd hEg
    (fun V a w1 => V = [] ∧ Sim η base W ρ H w1 ∧ LocOk η ρ H.nx (Loc.put c .any (Loc.put x .any (Loc.put it .any L7))) a ∧ a.tmps.size = nt ∧ a.tmps.getD it undef = .pointer (some ⟨w.heap.size, 0, none⟩) ∧ w1.heap[w.heap.size]? = some (.mapIter (some (ρ.b m)) clock #[] clock) ∧ w1.heap[ρ.b m]? = some (.map #[] clock))
    (fun V a w1 ⟨k1, k2, k3, k4, k5, k6, k7⟩ => by subst k1; exact ⟨k5, k6, k7, by omega, by omega⟩)
    (fun V a w1 hp ⟨k1, k2, k3, k4, k5, k6, k7⟩ => ⟨rfl, k2, k3.frame k3.defers fun t h6 hh => by
      obtain ⟨f1, f2, f3⟩ := hne t h6 hh
      rw [put_ne _ _ _ _ (Ne.symm f1), put_ne _ _ _ _ (Ne.symm f2)], by rw [put_size, put_size]; exact k4⟩)
    (fun V z R a w1 w2 hp _ _ => by
      have := hp.length_eq
      simp at this)
    (a7.put (some it) (.pointer (some ⟨w.heap.size, 0, none⟩))) (w.alloc (.mapIter (some (ρ.b m)) clock #[] clock))
    ⟨rfl, hst.sim.grow rfl rfl rfl rfl, hL7.frame hL7.defers fun t h6 hh => put_ne _ _ _ _ (Ne.symm (hne t h6 hh).2.2), by rw [put_size]; exact g2, put_get _ _ _ (by rw [g2]; exact hit), by
      show (w.heap.push _)[w.heap.size]? = _
      simp, by rw [hal _ hmlt]; exact q1⟩
  refine wp_mono this ?_
  rintro e a w ⟨rfl, s1, s2, s3⟩
  show (if b0 = b0 then _ else _)
  rw [if_pos rfl]
  exact ⟨_, _, ρ, rfl, s1, s2, s3, hst.ext, hst.le⟩
end
end Go.Proofs.YtddcgoopgnogeaaGreatDoor.Ev
namespace Go.Proofs.YtddcgoopgnogeaaGreatDoor.Ev
open Go.RowKit (Below)
set_option linter.unusedVariables false
section
variable {P : Program} {η η' : Env} {base : Nat} {W w w' : World} {ρ ρ' ρ0 ρ1 : Ren} {H H' : Heap} {L : Loc} {a : Act} {nx nx' n0 n1 nt : Nat}
/-! Values do not hang on which calls are put off. -/
mutual
theorem val_env (h : η.f = η'.f) : ∀ x, val ρ η x = val ρ η' x
  | .any => rfl
  | .bool b => rfl
  | .i64 n => rfl
  | .u8 n => rfl
  | .u32 n => rfl
  | .u64 n => rfl
  | .str l n => rfl
  | .nilp => rfl
  | .ptr id off => rfl
  | .nils => rfl
  | .sl id off len cap => rfl
  | .slo id eo len es => rfl
  | .nilm => rfl
  | .map id => rfl
  | .nilf => rfl
  | .fn f c => by simp only [val]; rw [vals_env h c]
  | .nili => rfl
  | .ifc t v => by simp only [val]; rw [val_env h v]
  | .agg l => by simp only [val]; rw [vals_env h l]
  | .tup l => by simp only [val]; rw [vals_env h l]
  | .sym i => by simp only [val]; rw [h]
theorem vals_env (h : η.f = η'.f) : ∀ l, vals ρ η l = vals ρ η' l
  | [] => rfl
  | x :: l => by simp only [vals]; rw [val_env h x, vals_env h l]
end
theorem val_env' (h : η.f = η'.f) : val ρ η = val ρ η' := funext fun x => val_env h x
theorem Leaves.env (h : η.f = η'.f) (hη : Leaves η) : Leaves η' := fun i => by rw [← h]; exact hη i
theorem Sim.env (h : η.f = η'.f) (hS : Sim η base W ρ H w) : Sim η' base W ρ H w := by
  refine ⟨hS.lt, fun id o hid ho => ?_, hS.inj, hS.below, hS.hb⟩
  obtain ⟨h1, h2⟩ := hS.ob id o hid ho
  refine ⟨h1, ?_⟩
  cases o with
  | row el es n d t =>
    obtain ⟨g1, cs, fr, g2, g3, g4, g5, g6⟩ := h2
    exact ⟨g1, cs, fr, g2, g3, g4, g5, fun i hi => by
      obtain ⟨x, k1, k2, k3, k4⟩ := g6 i hi
      exact ⟨x, k1, k2, k3, by rw [← val_env h x]; exact k4⟩⟩
  | mp l =>
    obtain ⟨g1, es, clock, g2, g3, g4⟩ := h2
    refine ⟨g1, es, clock, g2, ?_, g4⟩
    rw [g3]
    unfold pairs
    rw [val_env' h]
theorem CBok.env (h : η.f = η'.f) {cb : CB} (hcb : CBok P η base W cb) : CBok P η' base W cb := by
  intro f args H v H' hr
  obtain ⟨h1, h2⟩ := hcb f args H v H' hr
  refine ⟨h1, fun ρ w hS hw => ?_⟩
  have := h2 ρ w (hS.env h.symm) hw
  rw [val_env' h] at this
  refine this.mono ?_
  rintro e w' ⟨ρ', he, k1, k2, k3, k4⟩
  exact ⟨ρ', by rw [← val_env h v]; exact he, k1, k2, k3.env h, k4⟩
theorem LocOk.env (h : η.f = η'.f) (hL : LocOk η ρ nx L a) (hd : a.defers = η'.D) : LocOk η' ρ nx L a :=
  ⟨fun t ht => (hL.get t ht).imp id fun ⟨h1, h2⟩ => ⟨h1, by rw [h2, val_env h]⟩, hd⟩
/-- A deferred call of a function of which it is known what its code does. -/
theorem callsD_code {fn : Func} {f : Nat} {c : Code} {args : List AV} {R : Loc → Heap → Out} {v : AV} {u : FrameMode} (hD : η.D = []) (ht : fn.ntmps ≤ 256) (hη : Leaves η) (hf : P.funcs[f]? = some fn) (hb : fn.body = some c)
    (hR : ∀ (L : Loc) (H : Heap) (out : Out) (ρ : Ren) (n0 : Nat) (a : Act) (w : World), R L H = out → out ≠ .fail → St η base W fn.ntmps ρ n0 ρ L H a w → c.wp P (After η base W fn.ntmps ρ n0 out) a w)
    (h : (Bool.rec .none (Out.rec (fun L H => (outC P fn.results).out L H) (fun _ _ _ => .none) (fun L H => (outC P fn.results).out L H) .none (R (argsIn args L0) H)) (Nat.ble (len args) fn.ntmps) : Res) = .some v H') (hS : Sim η base W ρ H w) (hw : ∀ x ∈ args, Wf ρ H.nx x) :
    CallsD P f (args.map (val ρ η)).toArray u w fun e u' w' => u' = u ∧ ∃ ρ', e = .returned (val ρ' η v) ∧ Ext ρ ρ' H.nx ∧ H.nx ≤ H'.nx ∧ Sim η base W ρ' H' w' ∧ Wf ρ' H'.nx v := by
  obtain ⟨h1, h2⟩ := bres_some h
  have h1 : len args ≤ fn.ntmps := Nat.le_of_ble_eq_true h1
  rw [len_eq] at h1
  refine callsD_of_wp hf hb ?_
  have hSt : St η base W fn.ntmps ρ H.nx ρ (argsIn args L0) H { tmps := (args.map (val ρ η)).toArray ++ Array.replicate (fn.ntmps - (args.map (val ρ η)).toArray.size) undef, defers := [] } w :=
    ⟨hS, args_loc hD h1 ht hw, by simp; omega, Ext.refl _ _, Nat.le_refl _⟩
  have fin : ∀ {L1 H1 ρ1 a1 w1}, (outC P fn.results).out L1 H1 = .some v H' → St η base W fn.ntmps ρ H.nx ρ1 L1 H1 a1 w1 → a1.defers = [] ∧ ∃ u, (results fn a1.tmps).run P w1 = .ok u w1 ∧ ∃ ρ', (Ending.returned u) = .returned (val ρ' η v) ∧ Ext ρ ρ' H.nx ∧ H.nx ≤ H'.nx ∧ Sim η base W ρ' H' w1 ∧ Wf ρ' H'.nx v := by
    intro L1 H1 ρ1 a1 w1 ho hs
    obtain ⟨rfl, g1, g2⟩ := outC_ok hη hs.sim hs.loc ho
    exact ⟨hs.loc.defers.trans hD, _, g1, ρ1, rfl, hs.ext, hs.le, hs.sim, g2⟩
  cases ho : R (argsIn args L0) H with
  | fail => rw [ho] at h2; cases h2
  | exit i L1 H1 => rw [ho] at h2; cases h2
  | norm L1 H1 =>
    rw [ho] at h2
    refine wp_mono (hR _ _ _ _ _ _ _ ho (by simp) hSt) fun e a w he => ?_
    cases e with
    | normal =>
      obtain ⟨L2, H2, ρ2, k1, k2⟩ := he
      injection k1 with k1 k3
      subst k1
      subst k3
      obtain ⟨d1, u, d2, d3⟩ := fin h2 k2
      exact ⟨d1, u, d2, d3⟩
    | exit id => obtain ⟨_, _, _, h1, _⟩ := he; cases h1
    | ret => obtain ⟨_, _, _, h1, _⟩ := he; cases h1
    | goto l => exact he.elim
    | panic ch => exact he.elim
    | outgrown => exact he.elim
  | ret L1 H1 =>
    rw [ho] at h2
    refine wp_mono (hR _ _ _ _ _ _ _ ho (by simp) hSt) fun e a w he => ?_
    cases e with
    | ret =>
      obtain ⟨L2, H2, ρ2, k1, k2⟩ := he
      injection k1 with k1 k3
      subst k1
      subst k3
      obtain ⟨d1, u, d2, d3⟩ := fin h2 k2
      exact ⟨d1, u, d2, d3⟩
    | exit id => obtain ⟨_, _, _, h1, _⟩ := he; cases h1
    | normal => obtain ⟨_, _, _, h1, _⟩ := he; cases h1
    | goto l => exact he.elim
    | panic ch => exact he.elim
    | outgrown => exact he.elim
end
end Go.Proofs.YtddcgoopgnogeaaGreatDoor.Ev
namespace Go.Proofs.YtddcgoopgnogeaaGreatDoor.Ev
open Go.RowKit (Below)
set_option linter.unusedVariables false
section
variable {P : Program} {η η' : Env} {base : Nat} {W w w' : World} {ρ ρ' ρ0 ρ1 : Ren} {H H' : Heap} {L : Loc} {a : Act} {nx nx' n0 n1 nt : Nat}
/-- The end of a function's code, of which it is known what the function yields. -/
def TailOk (P : Program) (η : Env) (base : Nat) (W : World) (fn : Func) (c : Code) (k : Loc → Heap → Res) : Prop :=
  ∀ (L : Loc) (H : Heap) (v : AV) (H' : Heap) (ρ ρ0 : Ren) (n0 : Nat) (a : Act) (w : World), k L H = .some v H' → St η base W fn.ntmps ρ0 n0 ρ L H a w →
    c.wp P (bodyPostD P fn fun e w' => ∃ ρ', e = .returned (val ρ' η v) ∧ Ext ρ0 ρ' n0 ∧ n0 ≤ H'.nx ∧ Sim η base W ρ' H' w' ∧ Wf ρ' H'.nx v) a w
theorem rres_some {x : Res} {f : AV → Heap → Res} {v : AV} (h : (Res.rec .none f x : Res) = .some v H') : ∃ u H1, x = .some u H1 ∧ f u H1 = .some v H' := by
  cases x with
  | none => cases h
  | some u H1 => exact ⟨u, H1, rfl, h⟩
theorem tail_ret {fn : Func} {v : AV} {out : Exit} (hD : η.D = []) (hη : Leaves η) (h : (outC P fn.results).out L H = .some v H') (hS : St η base W fn.ntmps ρ0 n0 ρ L H a w) :
    Go.Leaves P fn a.tmps (fun e w' => ∃ ρ', e = .returned (val ρ' η v) ∧ Ext ρ0 ρ' n0 ∧ n0 ≤ H'.nx ∧ Sim η base W ρ' H' w' ∧ Wf ρ' H'.nx v) a.defers .returning w := by
  obtain ⟨rfl, g1, g2⟩ := outC_ok hη hS.sim hS.loc h
  rw [hS.loc.defers.trans hD]
  exact ⟨_, g1, ρ, rfl, hS.ext, hS.le, hS.sim, g2⟩
/-- Code ahead of a function's end. -/
theorem tail_seq {fn : Func} {x y : Code} {kx : Loc → Heap → Out} {ky : Loc → Heap → Res} (hD : η.D = []) (hη : Leaves η) (hx : CodeOk P η base W fn.ntmps x kx) (hy : TailOk P η base W fn y ky) :
    TailOk P η base W fn (.seq x y) fun L H => Out.rec ky (fun _ _ _ => .none) (fun L H => (outC P fn.results).out L H) .none (kx L H) := by
  intro L H v H' ρ ρ0 n0 a w h hS
  apply wp_seq
  cases ho : kx L H with
  | fail => simp only [ho] at h; cases h
  | exit i L1 H1 => simp only [ho] at h; cases h
  | ret L1 H1 =>
    simp only [ho] at h
    refine wp_mono (hx L H _ ρ ρ0 n0 a w ho (by simp) hS) fun e a w he => ?_
    cases e with
    | ret =>
      obtain ⟨L2, H2, ρ2, k1, k2⟩ := he
      injection k1 with k1 k3
      subst k1
      subst k3
      exact tail_ret (out := .ret) hD hη h k2
    | exit id => obtain ⟨_, _, _, h1, _⟩ := he; cases h1
    | normal => obtain ⟨_, _, _, h1, _⟩ := he; cases h1
    | goto l => exact he.elim
    | panic ch => exact he.elim
    | outgrown => exact he.elim
  | norm L1 H1 =>
    simp only [ho] at h
    refine wp_mono (hx L H _ ρ ρ0 n0 a w ho (by simp) hS) fun e a w he => ?_
    cases e with
    | normal =>
      obtain ⟨L2, H2, ρ2, k1, k2⟩ := he
      injection k1 with k1 k3
      subst k1
      subst k3
      exact hy L1 H1 v H' ρ2 ρ0 n0 a w h k2
    | exit id => obtain ⟨_, _, _, h1, _⟩ := he; cases h1
    | ret => obtain ⟨_, _, _, h1, _⟩ := he; cases h1
    | goto l => exact he.elim
    | panic ch => exact he.elim
    | outgrown => exact he.elim
/-- What is behind a defer. -/
noncomputable def deferK (P : Program) (fn : Func) (Rest : Code) (l7 : List Oper) (xs : List Operand) (lk : Func) (lc : Code) (cb : CB) (L1 : Loc) (H1 : Heap) : Res :=
  Option.rec .none (fun L7 => Bool.rec .none
      (Out.rec (fun L2 H2 => Res.rec .none (fun _ H3 => (outC P fn.results).out L2 H3) ((bodyC P lk lc).run cb (gets (xs.map gOf) L7) H2)) (fun _ _ _ => .none)
        (fun L2 H2 => Res.rec .none (fun _ H3 => (outC P fn.results).out L2 H3) ((bodyC P lk lc).run cb (gets (xs.map gOf) L7) H2)) .none ((codeC P fn.ntmps Rest).run cb L7 H1)) (oks (gets (xs.map gOf) L7))) (looksC P fn.ntmps H1 l7 L1)
theorem tail_defer {fn lk : Func} {g : Nat} {Rest lc : Code} {iD : Nat} {l7 : List Oper} {oD : Oper} {cD : Call} {opsD : Array Oper} {cb : CB} (hD : η.D = []) (hm : P.follows .mixedOrders = true) (ht : fn.ntmps ≤ 256) (hη : Leaves η) (hcb : CBok P η base W cb)
    (h7 : opsD = (l7 ++ [oD]).toArray) (hO : oD.op = .defer cD) (hOd : oD.dst = none) (hOg : oD.guard = none) (hcal : cD.callee = .value (.func g))
    (hg : P.funcs[g]? = some lk) (hgb : lk.body = some lc) (hgn : (lk.name == "runtime.NumGoroutine") = false) :
    TailOk P η base W fn (.seq (.region iD opsD false) Rest) fun L H => deferK P fn Rest l7 cD.args.toList lk lc cb L H := by
  intro L1 H1 v H' ρ1 ρ n0 a1 w1 h3 hst
  obtain ⟨L7, e1, h3⟩ := ores_some h3
  obtain ⟨e2, h4⟩ := bres_some h3
  apply wp_seq
  apply wp_region
  rw [h7]
  have hsz7 : (l7 ++ [oD]).toArray.size = l7.length + 1 := by simp
  rw [hsz7, List.range_eq_range', ← List.range'_append_1]
  refine looks_wp (P := P) (ops := (l7 ++ [oD]).toArray) ht hη hst.sim l7 0 L1 L7 a1 (fun j o' hj => by
    have := (List.getElem?_eq_some_iff.1 hj).1
    simp [List.getElem?_append_left this, hj]) e1 hst.loc hst.size ?_
  intro a7 g1 g2 g3
  rw [show List.range' (0 + l7.length) 1 = [l7.length] by simp]
  unfold wpOps
  have hoD : (l7 ++ [oD]).toArray[l7.length]? = some oD := by simp
  simp only [hoD]
  rw [if_pos (by simp [Region.wanted, hOg])]
  left
  obtain ⟨x1, x2⟩ := gets_vals g1 cD.args.toList e2
  have hargs : cD.args.map a7.eval = ((gets (cD.args.toList.map gOf) L7).map (val ρ1 η)).toArray := by
    apply Array.ext'
    simp only [Array.toList_map]
    rw [x2]
  unfold Oper.wp
  have er : (execOp a7.eval oD).run P w1 = .ok (.defer ⟨.fn (.func g) #[], ((gets (cD.args.toList.map gOf) L7).map (val ρ1 η)).toArray⟩) w1 := by
    simp only [execOp, hO, resolve, hcal, Sem.run_bind, Act.eval, Deferred.ofValue, Sem.run_pure, Result.andThen_ok]
    simp [hargs]
  rw [er, Oper.upon_defer, hOd]
  unfold wpOps
  show Rest.wp P _ _ w1
  obtain ⟨ηd, hdf, hdD⟩ : ∃ ηd : Env, η.f = ηd.f ∧ ηd.D = [⟨.fn (.func g) #[], ((gets (cD.args.toList.map gOf) L7).map (val ρ1 η)).toArray⟩] := ⟨⟨η.f, [⟨.fn (.func g) #[], ((gets (cD.args.toList.map gOf) L7).map (val ρ1 η)).toArray⟩]⟩, rfl, rfl⟩
  have hηd : Leaves ηd := hη.env hdf
  have hst2 : St ηd base W fn.ntmps ρ n0 ρ1 L7 H1 ({ a7 with defers := ⟨.fn (.func g) #[], ((gets (cD.args.toList.map gOf) L7).map (val ρ1 η)).toArray⟩ :: a7.defers }.put none undef) w1 := by
    have hl : LocOk η ρ1 H1.nx L7 a7 := g1
    have hd : a7.defers = [] := hl.defers.trans hD
    have hget : ∀ t, t < 256 → L7.get t = .any ∨ (Wf ρ1 H1.nx (L7.get t) ∧ a7.tmps.getD t undef = val ρ1 ηd (L7.get t)) := fun t ht' =>
      (hl.get t ht').imp id fun ⟨y1, y2⟩ => ⟨y1, by rw [y2, val_env hdf]⟩
    have hdef : ({ a7 with defers := ⟨.fn (.func g) #[], ((gets (cD.args.toList.map gOf) L7).map (val ρ1 η)).toArray⟩ :: a7.defers }.put none undef : Act).defers = ηd.D := by
      rw [hdD]
      show _ :: a7.defers = _
      rw [hd]
    exact ⟨hst.sim.env hdf, ⟨hget, hdef⟩, g2, hst.ext, hst.le⟩
  have fin : ∀ (L2 : Loc) (H2 : Heap) (ρ2 : Ren) (a2 : Act) (w2 : World), (Res.rec .none (fun _ H3 => (outC P fn.results).out L2 H3) ((bodyC P lk lc).run cb (gets (cD.args.toList.map gOf) L7) H2) : Res) = .some v H' →
      St ηd base W fn.ntmps ρ1 H1.nx ρ2 L2 H2 a2 w2 →
      Go.Leaves P fn a2.tmps (fun e w' => ∃ ρ', e = .returned (val ρ' η v) ∧ Ext ρ ρ' n0 ∧ n0 ≤ H'.nx ∧ Sim η base W ρ' H' w' ∧ Wf ρ' H'.nx v) a2.defers .returning w2 := by
    intro L2 H2 ρ2 a2 w2 hr hs2
    obtain ⟨u, H3, r1, r2⟩ := rres_some hr
    rw [hs2.loc.defers, hdD]
    have hsim2 : Sim η base W ρ2 H2 w2 := hs2.sim.env hdf.symm
    have hxw : ∀ x ∈ gets (cD.args.toList.map gOf) L7, Wf ρ2 H2.nx x ∧ val ρ2 η x = val ρ1 η x := fun x hx => (x1 x hx).ext η hs2.ext hs2.le
    have hxa : ((gets (cD.args.toList.map gOf) L7).map (val ρ2 η)).toArray = ((gets (cD.args.toList.map gOf) L7).map (val ρ1 η)).toArray := by
      congr 1
      exact List.map_congr_left fun x hx => (hxw x hx).2
    unfold bodyC at r1
    split at r1
    · rename_i htl
      have hcd := callsD_code (u := .returning) (R := fun L H => (codeC P lk.ntmps lc).run cb L H) hD htl hη hg hgb (fun L H out ρ n0 a w h hn hS => code_ok hm htl hη hcb lc L H out ρ a w h hn hS) r1 hsim2 (fun x hx => (hxw x hx).1)
      rw [hxa] at hcd
      refine leaves_cons (by simp) ?_ (hcd.mono ?_)
      · have f3' : lk.name ≠ "runtime.NumGoroutine" := by simpa using hgn
        simp [invoke, callFunc, program, Sem.run, hg, hgb, f3']
      · rintro e u' w3 ⟨rfl, ρ3, rfl, q1, q2, q3, q4⟩
        show Go.Leaves P fn a2.tmps _ [] .returning w3
        have hl3 : LocOk ηd ρ3 H3.nx L2 a2 := hs2.loc.ext q1 q2
        obtain ⟨rfl, o1, o2⟩ := outC_ok hηd (q3.env hdf) hl3 r2
        rw [← val_env hdf] at o1
        exact ⟨_, o1, ρ3, rfl, hst.ext.trans (hs2.ext.trans q1 hs2.le) hst.le, Nat.le_trans hst.le (Nat.le_trans hs2.le q2), q3, o2⟩
    · cases r1
  cases ho2 : (codeC P fn.ntmps Rest).run cb L7 H1 with
  | fail => rw [ho2] at h4; cases h4
  | exit i L2 H2 => rw [ho2] at h4; cases h4
  | norm L2 H2 =>
    rw [ho2] at h4
    refine wp_mono (code_ok hm ht hηd (hcb.env hdf) Rest _ _ _ _ _ _ ho2 (by simp) hst2.now) fun e a w he => ?_
    cases e with
    | normal =>
      obtain ⟨L3, H3, ρ2, k1, k2⟩ := he
      injection k1 with k1 k3
      subst k1
      subst k3
      exact fin _ _ _ _ _ h4 k2
    | exit id => obtain ⟨_, _, _, h1, _⟩ := he; cases h1
    | ret => obtain ⟨_, _, _, h1, _⟩ := he; cases h1
    | goto l => exact he.elim
    | panic ch => exact he.elim
    | outgrown => exact he.elim
  | ret L2 H2 =>
    rw [ho2] at h4
    refine wp_mono (code_ok hm ht hηd (hcb.env hdf) Rest _ _ _ _ _ _ ho2 (by simp) hst2.now) fun e a w he => ?_
    cases e with
    | ret =>
      obtain ⟨L3, H3, ρ2, k1, k2⟩ := he
      injection k1 with k1 k3
      subst k1
      subst k3
      exact fin _ _ _ _ _ h4 k2
    | exit id => obtain ⟨_, _, _, h1, _⟩ := he; cases h1
    | normal => obtain ⟨_, _, _, h1, _⟩ := he; cases h1
    | goto l => exact he.elim
    | panic ch => exact he.elim
    | outgrown => exact he.elim
/-- A function whose code is known to its end. -/
theorem fn_tail {fn : Func} {c : Code} {f : Nat} {k : Loc → Heap → Res} {args : List AV} {v : AV} (hD : η.D = []) (ht : fn.ntmps ≤ 256) (hf : P.funcs[f]? = some fn) (hb : fn.body = some c) (hk : TailOk P η base W fn c k)
    (h : (Bool.rec .none (k (argsIn args L0) H) (Nat.ble (len args) fn.ntmps) : Res) = .some v H') (hS : Sim η base W ρ H w) (hw : ∀ x ∈ args, Wf ρ H.nx x) : Calls P f (args.map (val ρ η)).toArray w fun e w' =>
      ∃ ρ', e = .returned (val ρ' η v) ∧ Ext ρ ρ' H.nx ∧ H.nx ≤ H'.nx ∧ Sim η base W ρ' H' w' ∧ Wf ρ' H'.nx v := by
  obtain ⟨h1, h2⟩ := bres_some h
  have h1 : len args ≤ fn.ntmps := Nat.le_of_ble_eq_true h1
  rw [len_eq] at h1
  refine calls_of_wp_defers hf hb ?_
  exact hk _ _ _ _ ρ ρ H.nx _ _ h2 ⟨hS, args_loc hD h1 ht hw, by simp; omega, Ext.refl _ _, Nat.le_refl _⟩
end
end Go.Proofs.YtddcgoopgnogeaaGreatDoor.Ev
namespace Go.Proofs.YtddcgoopgnogeaaGreatDoor.Ev
open Go.RowKit (Below)
set_option linter.unusedVariables false
section
variable {P : Program} {η η' : Env} {base : Nat} {W w w' : World} {ρ ρ' ρ0 ρ1 : Ren} {H H' : Heap} {L : Loc} {a : Act} {nx nx' n0 n1 nt : Nat}
/-! Functions of pieces. -/
noncomputable def thenO (kx ky : Loc → Heap → Out) (L : Loc) (H : Heap) : Out := Out.rec ky .exit .ret .fail (kx L H)
noncomputable def endO (P : Program) (fn : Func) (o : Out) : Res := Out.rec (fun L H => (outC P fn.results).out L H) (fun _ _ _ => .none) (fun L H => (outC P fn.results).out L H) .none o
noncomputable def thenR (P : Program) (fn : Func) (kx : Loc → Heap → Out) (ky : Loc → Heap → Res) (L : Loc) (H : Heap) : Res := Out.rec ky (fun _ _ _ => .none) (fun L H => (outC P fn.results).out L H) .none (kx L H)
noncomputable def codeFn (P : Program) (fn : Func) (k : CB → Loc → Heap → Out) : FnC :=
  ⟨fun cb args H => Bool.rec .none (endO P fn (k cb (argsIn args L0) H)) (Nat.ble (len args) fn.ntmps)⟩
noncomputable def tailFn (fn : Func) (k : CB → Loc → Heap → Res) : FnC :=
  ⟨fun cb args H => Bool.rec .none (k cb (argsIn args L0) H) (Nat.ble (len args) fn.ntmps)⟩
theorem thenO_ok {x y : Code} {kx ky : Loc → Heap → Out} (hx : CodeOk P η base W nt x kx) (hy : CodeOk P η base W nt y ky) : CodeOk P η base W nt (.seq x y) (thenO kx ky) := seq_ok hx hy
theorem thenR_ok {fn : Func} {x y : Code} {kx : Loc → Heap → Out} {ky : Loc → Heap → Res} (hD : η.D = []) (hη : Leaves η) (hx : CodeOk P η base W fn.ntmps x kx) (hy : TailOk P η base W fn y ky) : TailOk P η base W fn (.seq x y) (thenR P fn kx ky) := tail_seq hD hη hx hy
theorem codeFn_ok {fn : Func} {c : Code} {f : Nat} {k : CB → Loc → Heap → Out} {cb : CB} {args : List AV} {v : AV} (hD : η.D = []) (ht : fn.ntmps ≤ 256) (hη : Leaves η) (hf : P.funcs[f]? = some fn) (hb : fn.body = some c)
    (hk : CodeOk P η base W fn.ntmps c (k cb)) (h : (codeFn P fn k).run cb args H = .some v H') (hS : Sim η base W ρ H w) (hw : ∀ x ∈ args, Wf ρ H.nx x) : Calls P f (args.map (val ρ η)).toArray w fun e w' =>
      ∃ ρ', e = .returned (val ρ' η v) ∧ Ext ρ ρ' H.nx ∧ H.nx ≤ H'.nx ∧ Sim η base W ρ' H' w' ∧ Wf ρ' H'.nx v :=
  fn_ok hD ht hη hf hb (fun L H out ρ n0 a w h hn hS => hk L H out ρ ρ n0 a w h hn hS) h hS hw
theorem tailFn_ok {fn : Func} {c : Code} {f : Nat} {k : CB → Loc → Heap → Res} {cb : CB} {args : List AV} {v : AV} (hD : η.D = []) (ht : fn.ntmps ≤ 256) (hf : P.funcs[f]? = some fn) (hb : fn.body = some c)
    (hk : TailOk P η base W fn c (k cb)) (h : (tailFn fn k).run cb args H = .some v H') (hS : Sim η base W ρ H w) (hw : ∀ x ∈ args, Wf ρ H.nx x) : Calls P f (args.map (val ρ η)).toArray w fun e w' =>
      ∃ ρ', e = .returned (val ρ' η v) ∧ Ext ρ ρ' H.nx ∧ H.nx ≤ H'.nx ∧ Sim η base W ρ' H' w' ∧ Wf ρ' H'.nx v :=
  fn_tail hD ht hf hb hk h hS hw
end
end Go.Proofs.YtddcgoopgnogeaaGreatDoor.Ev
namespace Go.Proofs.YtddcgoopgnogeaaGreatDoor.Ev
open Go.RowKit (Below)
set_option linter.unusedVariables false
section
variable {P : Program} {η : Env} {base : Nat} {W w w' : World} {ρ : Ren} {H H' : Heap}
/-- A builder's look at its own place: a builder that is a variable. -/
noncomputable def copyFn (tB : Nat) : FnC := ⟨fun _ a H => match a with
  | [.ptr id 0] => Option.rec .none (fun o => Ob.rec (fun el es n d t => Bool.rec .none
      (Option.rec .none (fun c => VP.rec .none (Option.rec .none (fun o' => .some (.tup []) (H.put id o')) ((Ob.row el es n d t).set 0 (.ptr id 0))) (fun i q => Bool.rec .none (.some (.tup []) H) (and' (Nat.beq i id) (Nat.beq q 0))) c.vp) ((Ob.row el es n d t).get 0))
      (and' (Nat.beq el tB) (and' (Nat.beq es 0) (Nat.beq n 2)))) (fun _ => .none) o) (H.ob id)
  | _ => .none⟩
theorem vpresF_some {x : VP} {f : Res} {g : Nat → Nat → Res} {v : AV} (h : (VP.rec .none f g x : Res) = .some v H') : (x = .nil ∧ f = .some v H') ∨ ∃ i o, x = .ptr i o ∧ g i o = .some v H' := by
  cases x with
  | no => cases h
  | nil => exact .inl ⟨rfl, h⟩
  | ptr i o => exact .inr ⟨i, o, rfl, h⟩
theorem copyFn_ok {f tB : Nat} {cb : CB} {args : List AV} {v : AV}
    (hU : ∀ (b : Nat) (w : World), w.cell? ⟨b, 0, none⟩ = some (.pointer (some ⟨b, 0, none⟩)) → Calls P f #[.pointer (some ⟨b, 0, none⟩)] w fun e w' => e = .returned (.tuple #[]) ∧ w' = w)
    (hF : ∀ (b : Nat) (w : World), w.cell? ⟨b, 0, none⟩ = some (.pointer none) → w.shape? b = some (tB, 2) → w.frozen? ⟨b, 0, none⟩ = false → Calls P f #[.pointer (some ⟨b, 0, none⟩)] w fun e w' => e = .returned (.tuple #[]) ∧ w' = w.setCell ⟨b, 0, none⟩ (.pointer (some ⟨b, 0, none⟩)))
    (h : (copyFn tB).run cb args H = .some v H') (hS : Sim η base W ρ H w) (hw : ∀ x ∈ args, Wf ρ H.nx x) : Calls P f (args.map (val ρ η)).toArray w fun e w' =>
      ∃ ρ', e = .returned (val ρ' η v) ∧ Ext ρ ρ' H.nx ∧ H.nx ≤ H'.nx ∧ Sim η base W ρ' H' w' ∧ Wf ρ' H'.nx v := by
  unfold copyFn at h
  simp only at h
  split at h
  · rename_i id
    obtain ⟨o, ho, h⟩ := ores_some h
    cases o with
    | mp l => cases h
    | row el es n d t =>
    obtain ⟨h1, h9⟩ := bres_some h
    clear h
    rw [and'_eq, and'_eq, Bool.and_eq_true, Bool.and_eq_true] at h1
    obtain ⟨h1, h2, h3⟩ := h1
    obtain rfl := Nat.eq_of_beq_eq_true h1
    obtain rfl := Nat.eq_of_beq_eq_true h2
    obtain rfl := Nat.eq_of_beq_eq_true h3
    obtain ⟨c, hc, h8⟩ := ores_some h9
    have hid : id < H.nx := by
      have := hw _ List.mem_cons_self
      cases this
      assumption
    obtain ⟨_, hrow⟩ := hS.ob id _ hid ho
    have hrow : RowOk ρ η H.nx w id el 0 2 d t := hrow
    obtain ⟨hd, cs, fr, hb, hsz⟩ := hrow.hn.2 rfl
    obtain ⟨c1, c2, c3⟩ := hS.get hid ho hc
    have hsh : w.shape? (ρ.b id) = some (el, 2) := by simp [World.shape?, hb, hsz]
    have ha : (List.map (val ρ η) [AV.ptr id 0]).toArray = #[.pointer (some ⟨ρ.b id, 0, none⟩)] := by simp [val, hd]
    rw [ha]
    rw [hd] at c1
    have c1 : w.cell? ⟨ρ.b id, 0, none⟩ = some (val ρ η c) := c1
    rcases vpresF_some h8 with ⟨e1, h⟩ | ⟨i, q, e1, h⟩
    · obtain rfl := vp_nil e1
      obtain ⟨o', s1, s2⟩ := ores_some h
      injection s2 with s2 s3
      subst s2
      subst s3
      obtain ⟨b1, b2, b3⟩ := hS.set1 hid ho s1 (.ptr hid) rfl
      rw [hd] at b2 b3
      have b2 : w.frozen? ⟨ρ.b id, 0, none⟩ = false := b2
      have b3 : Sim η base W ρ (H.put id o') (w.setCell ⟨ρ.b id, 0, none⟩ (val ρ η (.ptr id 0))) := b3
      refine (hF (ρ.b id) w c1 hsh b2).mono ?_
      rintro e w' ⟨rfl, rfl⟩
      have hv : val ρ η (.ptr id 0) = .pointer (some ⟨ρ.b id, 0, none⟩) := by simp [val, hd]
      rw [hv] at b3
      exact ⟨ρ, by simp [val, vals], Ext.refl _ _, Nat.le_refl _, b3, tup_nil⟩
    · obtain rfl := vp_ptr e1
      obtain ⟨g1, h⟩ := bres_some h
      injection h with h h'
      subst h
      subst h'
      rw [and'_eq, Bool.and_eq_true] at g1
      obtain rfl := Nat.eq_of_beq_eq_true g1.1
      obtain rfl := Nat.eq_of_beq_eq_true g1.2
      have hv : val ρ η (.ptr i 0) = .pointer (some ⟨ρ.b i, 0, none⟩) := by simp [val, hd]
      rw [hv] at c1
      refine (hU (ρ.b i) w c1).mono ?_
      rintro e w' ⟨rfl, rfl⟩
      exact ⟨ρ, by simp [val, vals], Ext.refl _ _, Nat.le_refl _, hS, tup_nil⟩
  · cases h
end
end Go.Proofs.YtddcgoopgnogeaaGreatDoor.Ev
