/- What the evaluator tells of code, of functions, of loops over maps. It proves no statement. -/
import Derived.Test.YtomicolllbhdaaaGreatEvE
import Derived.Maps.RangeRun
import Derived.Lib.Repeat
set_option linter.unusedVariables false
set_option linter.unusedSimpArgs false
set_option linter.unusedSectionVars false
namespace Go.Proofs.YtomicolllbhdaaaGreat.Ev
open Go.RowKit (Below)
set_option linter.unusedVariables false
section
variable {P : Program} {ops : Array Oper} {η : Nat → Value} {base : Nat} {W w w' : World} {ρ ρ' ρ0 : Ren} {H H' : Heap} {L : Loc} {a : Act} {nx nx' n0 : Nat}
theorem ok_false {x : AV} (h : x.ok = false) : x = .any := by cases x <;> first | rfl | cases h
theorem brec_false {b x : Bool} (h : (Bool.rec false x b : Bool) = true) : b = true ∧ x = true := by
  cases b with
  | false => cases h
  | true => exact ⟨rfl, h⟩
theorem agree_ok {Lc : Loc} : ∀ {ds : List Nat}, agree ds Lc L = true → ∀ d ∈ ds, d < 256 ∧ (Lc.get d = .any ∨ L.get d = Lc.get d)
  | [], h, d, hd => by cases hd
  | e :: ds, h, d, hd => by
    replace h : (Bool.rec false (Bool.rec false (agree ds Lc L) (Bool.rec true (beqV (L.get e) (Lc.get e)) (Lc.get e).ok)) (Nat.ble (Nat.succ e) 256) : Bool) = true := h
    obtain ⟨h1, h2⟩ := brec_false h
    obtain ⟨h3, h4⟩ := brec_false h2
    rcases List.mem_cons.1 hd with rfl | hd
    · refine ⟨Nat.le_of_ble_eq_true h1, ?_⟩
      cases hk : (Lc.get d).ok with
      | false => exact .inl (ok_false hk)
      | true => rw [hk] at h3; exact .inr (beqV_eq h3)
    · exact agree_ok h4 d hd
theorem clean_cases (x : AV) : clean x = .any ∨ clean x = x := by
  unfold clean
  cases plain x
  · exact .inl rfl
  · exact .inr rfl
theorem maskL_get {L1 : Loc} : ∀ {ds : List Nat}, (∀ d ∈ ds, d < 256) → ∀ t, t < 256 → (maskL ds L1 L).get t = if t ∈ ds then clean (L1.get t) else L.get t
  | [], h, t, ht => by rw [if_neg (by simp)]; rfl
  | d :: ds, h, t, ht => by
    have e : maskL (d :: ds) L1 L = Loc.put d (clean (L1.get d)) (maskL ds L1 L) := rfl
    rw [e, Loc.get_put t d ht (h d List.mem_cons_self), maskL_get (fun d hd => h d (List.mem_cons_of_mem _ hd)) t ht]
    by_cases htd : t = d
    · subst htd; simp
    · simp [htd]
theorem mem_dsts {dn goal d : Nat} {c : Cand} (hd : c.o.dst = some d) (h1 : goal.testBit c.i = true) (h2 : dn.testBit c.i = false) : ∀ {l : List Cand}, c ∈ l → d ∈ dsts l dn goal
  | [], h => by cases h
  | x :: l, h => by
    show d ∈ (Bool.rec (dsts l dn goal) (Option.rec (dsts l dn goal) (fun d => d :: dsts l dn goal) x.o.dst) (Bool.rec (Nat.testBit goal x.i) false (Nat.testBit dn x.i)) : List Nat)
    rcases List.mem_cons.1 h with rfl | h
    · rw [h1, h2, hd]
      exact List.mem_cons_self
    · have ih := mem_dsts hd h1 h2 h
      cases (Bool.rec (Nat.testBit goal x.i) false (Nat.testBit dn x.i) : Bool) with
      | false => exact ih
      | true =>
        cases x.o.dst with
        | none => exact ih
        | some e => exact List.mem_cons_of_mem _ ih
theorem emptyN_ok : ∀ {k : Nat}, emptyN H k = true → ∀ j, j < k → H.ob (H.nx + j) = none
  | 0, h, j, hj => by omega
  | k + 1, h, j, hj => by
    replace h : (Option.rec (emptyN H k) (fun _ => false) (H.ob (H.nx + k)) : Bool) = true := h
    cases ho : H.ob (H.nx + k) with
    | some o => rw [ho] at h; cases h
    | none =>
      rw [ho] at h
      by_cases hjk : j = k
      · rw [hjk]; exact ho
      · exact emptyN_ok h j (by omega)
/-- One operation of a group. -/
theorem try_ok {c : Cand} {nt : Nat} {L1 : Loc} {H1 : Heap} (hns : True) (ht : nt ≤ 256) (hη : Leaves η) (hS : Sim η base W ρ H w) (hL : LocOk η ρ H.nx L a) (hs : a.tmps.size = nt)
    (h : (tryOper P nt c.o).run L H = some (L1, H1)) {K : Act → World → Prop}
    (hK : ∀ ρ' w' a', Ext ρ ρ' H.nx → H.nx ≤ H1.nx → Sim η base W ρ' H1 w' → LocOk η ρ' H1.nx L1 a' → a'.tmps.size = nt → K a' w') :
    c.o.guard = none ∧ dstOk nt c.o.dst = true ∧ (∃ v, L1 = (putC c.o.dst).put v L) ∧ (∀ id, id < H.nx → H1.ob id = H.ob id) ∧ ∀ Q, c.o.wp P a w K Q := by
  unfold tryOper at h
  split at h
  · rename_i hd hg
    have hdd := dstOk_some hd ht hs
    refine ⟨hg, hd, ?_⟩
    unfold tryC at h
    split at h
    · rename_i f hf
      injection h with h
      injection h with h1 h2
      subst h1
      subst h2
      exact ⟨⟨_, rfl⟩, fun _ _ => rfl, fun Q => tot_wp (tot_sound hf) hS hL hdd fun ρ' w' a' e1 e2 e3 e4 e5 => hK ρ' w' a' e1 e2 e3 e4 (by rw [e5]; exact hs)⟩
    · rename_i f hf
      obtain ⟨v, h3, h4⟩ := oget_some h
      injection h4 with h4
      injection h4 with h1 h2
      subst h1
      subst h2
      exact ⟨⟨_, rfl⟩, fun _ _ => rfl, fun Q => pur_wp (pur_sound hf) hη hS hL hdd h3 fun ρ' w' a' e1 e2 e3 e4 e5 => hK ρ' w' a' e1 e2 e3 e4 (by rw [e5]; exact hs)⟩
    · rename_i f hf
      obtain ⟨v, h3, h4⟩ := oget_some h
      injection h4 with h4
      injection h4 with h1 h2
      subst h1
      subst h2
      exact ⟨⟨_, rfl⟩, fun _ _ => rfl, fun Q => look_wp (look_sound hf) hη hS hL hdd h3 fun ρ' w' a' e1 e2 e3 e4 e5 => hK ρ' w' a' e1 e2 e3 e4 (by rw [e5]; exact hs)⟩
    · rename_i f hf
      have h : (Res.rec none (fun v H' => some ((putC c.o.dst).put v L, H')) (f L H) : Option (Loc × Heap)) = some (L1, H1) := h
      cases hr : f L H with
      | none => rw [hr] at h; cases h
      | some v H2 =>
        rw [hr] at h
        injection h with h
        injection h with h1 h2
        subst h1
        subst h2
        refine ⟨⟨_, rfl⟩, ?_, fun Q => new_wp (new_sound hf) hη hS hL hdd hr fun ρ' w' a' e1 e2 e3 e4 e5 => hK ρ' w' a' e1 e2 e3 e4 (by rw [e5]; exact hs)⟩
        obtain ⟨_, _, _, _, _, _, _, r⟩ := new_sound hf η base W ρ H w L a v H2 hη hS hL hr
        exact r
    · cases h
  · cases h
end
end Go.Proofs.YtomicolllbhdaaaGreat.Ev
namespace Go.Proofs.YtomicolllbhdaaaGreat.Ev
open Go.RowKit (Below)
set_option linter.unusedVariables false
section
variable {P : Program} {ops : Array Oper} {η : Nat → Value} {base : Nat} {W w w' : World} {ρ ρ' ρ0 : Ren} {H H' : Heap} {L : Loc} {a : Act} {nx nx' n0 : Nat}
noncomputable def goW (P : Program) (nt : Nat) (l : List Cand) (goal : Nat) (chk : Loc → Heap → Bool) (n dn : Nat) (L : Loc) (H : Heap) (c : Cand) : Bool :=
  Option.rec false (fun p => ways P nt l goal chk n (Nat.lor (bit c.i) dn) p.1 p.2) ((tryOper P nt c.o).run L H)
theorem ways_succ {nt : Nat} {l : List Cand} {goal : Nat} {chk : Loc → Heap → Bool} {n dn : Nat} (h : ways P nt l goal chk (n + 1) dn L H = true) :
    (dn = goal ∧ chk L H = true) ∨ (∃ c ∈ l, readyM dn c = true ∧ c.pur = true ∧ sub' c.conf dn = true ∧ goW P nt l goal chk n dn L H c = true) ∨
      ((∃ c ∈ l, readyM dn c = true) ∧ ∀ c ∈ l, readyM dn c = true → goW P nt l goal chk n dn L H c = true) := by
  replace h : (Bool.rec
        (match findM (fun c => and' (and' (readyM dn c) c.pur) (sub' c.conf dn)) l with
        | some c => goW P nt l goal chk n dn L H c
        | none => Bool.rec (allM (goW P nt l goal chk n dn L H) (filterM (readyM dn) l)) false (isNil (filterM (readyM dn) l)))
        (chk L H) (Nat.beq dn goal) : Bool) = true := h
  cases hb : Nat.beq dn goal with
  | true => rw [hb] at h; exact .inl ⟨Nat.eq_of_beq_eq_true hb, h⟩
  | false =>
    rw [hb] at h
    right
    replace h : (match findM (fun c => and' (and' (readyM dn c) c.pur) (sub' c.conf dn)) l with
        | some c => goW P nt l goal chk n dn L H c
        | none => Bool.rec (allM (goW P nt l goal chk n dn L H) (filterM (readyM dn) l)) false (isNil (filterM (readyM dn) l)) : Bool) = true := h
    split at h
    · rename_i c hc
      obtain ⟨h1, h2⟩ := findM_some hc
      rw [and'_eq, and'_eq, Bool.and_eq_true, Bool.and_eq_true] at h2
      exact .inl ⟨c, h1, h2.1.1, h2.1.2, h2.2, h⟩
    · right
      cases hn : isNil (filterM (readyM dn) l) with
      | true => rw [hn] at h; cases h
      | false =>
        rw [hn] at h
        have h : allM (goW P nt l goal chk n dn L H) (filterM (readyM dn) l) = true := h
        refine ⟨?_, fun c hc hr => allM_iff h c (filterM_iff.2 ⟨hc, hr⟩)⟩
        cases hf : filterM (readyM dn) l with
        | nil => rw [hf] at hn; cases hn
        | cons c m =>
          obtain ⟨h1, h2⟩ := filterM_iff.1 (show c ∈ filterM (readyM dn) l by rw [hf]; exact List.mem_cons_self)
          exact ⟨c, h1, h2⟩
theorem goW_some {nt : Nat} {l : List Cand} {goal : Nat} {chk : Loc → Heap → Bool} {n dn : Nat} {c : Cand} (h : goW P nt l goal chk n dn L H c = true) :
    ∃ L1 H1, (tryOper P nt c.o).run L H = some (L1, H1) ∧ ways P nt l goal chk n (Nat.lor (bit c.i) dn) L1 H1 = true := by
  unfold goW at h
  cases hr : (tryOper P nt c.o).run L H with
  | none => rw [hr] at h; cases h
  | some p => rw [hr] at h; exact ⟨p.1, p.2, rfl, h⟩
theorem ways_sub {nt : Nat} {l : List Cand} {goal : Nat} {chk : Loc → Heap → Bool} : ∀ {n dn : Nat} {L : Loc} {H : Heap}, ways P nt l goal chk n dn L H = true → ∀ j, dn.testBit j = true → goal.testBit j = true
  | 0, dn, L, H, h, j, hj => by
    have h : (Bool.rec false (chk L H) (Nat.beq dn goal) : Bool) = true := h
    rw [← Nat.eq_of_beq_eq_true (brec_false h).1]
    exact hj
  | n + 1, dn, L, H, h, j, hj => by
    have go : ∀ c, goW P nt l goal chk n dn L H c = true → goal.testBit j = true := fun c hc => by
      obtain ⟨L1, H1, _, h2⟩ := goW_some hc
      exact ways_sub h2 j (by rw [testBit_lor, hj]; simp)
    rcases ways_succ h with ⟨rfl, _⟩ | ⟨c, _, _, _, _, hc⟩ | ⟨⟨c, h1, h2⟩, h3⟩
    · exact hj
    · exact go c hc
    · exact go c (h3 c h1 h2)
theorem free_of {c : Cand} {dn : Nat} {listed : Array Bool} (hco : CandOk P ops c) (hls : Ls ops listed dn) (hcf : sub' c.conf dn = true) : ∀ j oj, ops[j]? = some oj → j ≠ c.i → listed.getD j true = false → (∀ e ∈ oj.after, Region.binds .any e = true → e.on ≠ c.i) → c.o.apart ops oj = true := by
  intro j oj hj hne hunj hno
  have hjs : j < ops.size := (Array.getElem?_eq_some_iff.1 hj).1
  have hjd : dn.testBit j = false := by rw [← hls.getT hjs]; exact hunj
  have hcj : c.conf.testBit j = false := by
    cases hb : c.conf.testBit j with
    | false => rfl
    | true => rw [sub'_iff.1 hcf j hb] at hjd; cases hjd
  rw [hco.conf] at hcj
  rcases confM_ok hcj (y := rowM ops oj) (by simp [hj]) with h1 | h1 | h1
  · exact apartM_ok h1
  · exact absurd h1.symm hne
  · have h1 : (aftM oj).testBit c.i = true := h1
    rw [aftM_iff] at h1
    obtain ⟨e, he, hb, heq⟩ := h1
    exact absurd heq (hno e he hb)
/-- A group of operations in all orders. -/
theorem ways_ok {nt goal dn0 : Nat} {Lc : Loc} {nxc : Nat} {next : DrawC} {cb : CB} {out : Out} (hns : ∀ (j : Nat) (o : Oper) cs b, ops[j]? = some o → o.op ≠ .select cs b) (ht : nt ≤ 256) (hη : Leaves η) (hcb : CBok P η base W cb) (hn : out ≠ .fail)
    (hLc : ∀ t, t < 256 → t ∉ dsts (cands P ops) dn0 goal → Lc.get t = L.get t) (hem : emptyN H (nxc - H.nx) = true) (hrun : next.run cb [] Lc ⟨nxc, H.mem⟩ = out)
    (hnext : ∀ listed', Ls ops listed' goal → Closed ops listed' → NextOk P ops η base W nt ρ0 n0 cb out listed' next) :
    ∀ (n dn : Nat) (Lk : Loc) (Hk : Heap) (ρk : Ren) (ak : Act) (wk : World) (listedk : Array Bool) (f : Nat) (Φ : Nat → World → Prop),
      ways P nt (cands P ops) goal (fun Lk Hk => and' (agree (dsts (cands P ops) dn0 goal) Lc Lk) (Nat.beq Hk.nx nxc)) n dn Lk Hk = true → Ls ops listedk dn → Closed ops listedk → (∀ j, dn0.testBit j = true → dn.testBit j = true) →
      St η base W nt ρ0 n0 ρk Lk Hk ak wk → Ext ρ ρk H.nx → H.nx ≤ Hk.nx → (∀ id, id < H.nx → Hk.ob id = H.ob id) → FOk η base W [] Φ ρ H.nx → (∀ t, t < 256 → t ∉ dsts (cands P ops) dn0 goal → Lk.get t = L.get t) → left ops listedk ≤ f →
      wpAnyF P ops (After η base W nt ρ0 n0 out) Φ f listedk ak wk := by
  have fin : ∀ (dn : Nat) (Lk : Loc) (Hk : Heap) (ρk : Ren) (ak : Act) (wk : World) (listedk : Array Bool) (f : Nat) (Φ : Nat → World → Prop),
      dn = goal → and' (agree (dsts (cands P ops) dn0 goal) Lc Lk) (Nat.beq Hk.nx nxc) = true → Ls ops listedk dn → Closed ops listedk →
      St η base W nt ρ0 n0 ρk Lk Hk ak wk → Ext ρ ρk H.nx → H.nx ≤ Hk.nx → (∀ id, id < H.nx → Hk.ob id = H.ob id) → FOk η base W [] Φ ρ H.nx → (∀ t, t < 256 → t ∉ dsts (cands P ops) dn0 goal → Lk.get t = L.get t) → left ops listedk ≤ f →
      wpAnyF P ops (After η base W nt ρ0 n0 out) Φ f listedk ak wk := by
    rintro dn Lk Hk ρk ak wk listedk f Φ rfl hch hls hcl hS he hle hob hF hLk hf
    rw [and'_eq, Bool.and_eq_true] at hch
    obtain ⟨hag, hnx⟩ := hch
    have hnx := Nat.eq_of_beq_eq_true hnx
    subst hnx
    have hsim : Sim η base W ρk ⟨Hk.nx, H.mem⟩ wk := by
      have hpos : ∀ id o, id < Hk.nx → (⟨Hk.nx, H.mem⟩ : Heap).ob id = some o → Hk.ob id = some o := fun id o hid ho => by
        have ho : H.ob id = some o := ho
        by_cases hlt : id < H.nx
        · rw [hob id hlt]; exact ho
        · have := emptyN_ok hem (id - H.nx) (by omega)
          rw [show H.nx + (id - H.nx) = id by omega] at this
          rw [this] at ho
          cases ho
      exact ⟨hS.sim.lt, fun id o hid ho => hS.sim.ob id o hid (hpos id o hid ho), fun i j oi oj hi hj hoi hoj hb => hS.sim.inj i j oi oj hi hj (hpos _ _ hi hoi) (hpos _ _ hj hoj) hb, hS.sim.below, hS.sim.hb⟩
    have hloc : LocOk η ρk Hk.nx Lc ak := by
      refine ⟨fun t ht => ?_, hS.loc.defers⟩
      by_cases hd : t ∈ dsts (cands P ops) dn0 dn
      · rcases (agree_ok hag t hd).2 with h | h
        · exact .inl h
        · rw [← h]; exact hS.loc.get t ht
      · rw [hLc t ht hd, ← hLk t ht hd]; exact hS.loc.get t ht
    exact hnext listedk hls hcl f [] Φ ρk Lc ⟨Hk.nx, H.mem⟩ ak wk hf hrun ⟨hsim, hloc, hS.size, hS.ext, hS.le⟩ (fun i => hF i ρk Hk wk he hle hS.sim (fun p hp => by cases hp)) (hF.ext he hle)
  intro n
  induction n with
  | zero =>
    intro dn Lk Hk ρk ak wk listedk f Φ h hls hcl hdn hS he hle hob hF hLk hf
    have h : (Bool.rec false (and' (agree (dsts (cands P ops) dn0 goal) Lc Lk) (Nat.beq Hk.nx nxc)) (Nat.beq dn goal) : Bool) = true := h
    obtain ⟨h1, h2⟩ := brec_false h
    exact fin dn Lk Hk ρk ak wk listedk f Φ (Nat.eq_of_beq_eq_true h1) h2 hls hcl hS he hle hob hF hLk hf
  | succ n ih =>
    intro dn Lk Hk ρk ak wk listedk f Φ h hls hcl hdn hS he hle hob hF hLk hf
    have go : ∀ c ∈ cands P ops, readyM dn c = true → goW P nt (cands P ops) goal (fun Lk Hk => and' (agree (dsts (cands P ops) dn0 goal) Lc Lk) (Nat.beq Hk.nx nxc)) n dn Lk Hk c = true →
        ∃ f', f = f' + 1 ∧ c.i ∈ Region.ready .any ops listedk ∧ ∃ L1 H1, (tryOper P nt c.o).run Lk Hk = some (L1, H1) ∧ ∀ (Ψ : Nat → World → Prop) ρ2 a2 w2, FOk η base W [] Ψ ρ H.nx → St η base W nt ρ0 n0 ρ2 L1 H1 a2 w2 → Ext ρk ρ2 Hk.nx → Hk.nx ≤ H1.nx → (∀ id, id < Hk.nx → H1.ob id = Hk.ob id) →
          (∃ v, L1 = (putC c.o.dst).put v Lk) → (∀ t, c.o.dst = some t → t < 256) → wpAnyF P ops (After η base W nt ρ0 n0 out) Ψ f' (listedk.setIfInBounds c.i true) a2 w2 := by
      intro c hc hr hgo
      have hco := cands_ok hc
      have hi : c.i < ops.size := (Array.getElem?_eq_some_iff.1 hco.get).1
      have hri : c.i ∈ Region.ready .any ops listedk := (ready_iff (P := P) hls).2 ⟨c, hc, rfl, hr⟩
      have hun : listedk.getD c.i true = false := (mem_ready.1 hri).1
      obtain ⟨f, rfl⟩ : ∃ k, f = k + 1 := ⟨f - 1, by have := left_pos hi hun; omega⟩
      obtain ⟨L1, H1, h1, h2⟩ := goW_some hgo
      refine ⟨f, rfl, hri, L1, H1, h1, fun Ψ ρ2 a2 w2 hF2 hS2 e1 e2 e3 ⟨v, hv⟩ hd => ?_⟩
      refine ih _ L1 H1 ρ2 a2 w2 _ f Ψ h2 (hls.set hi) (hcl.set hri) (fun j hj => by rw [testBit_lor, hdn j hj]; simp) hS2 (he.trans e1 hle) (Nat.le_trans hle e2) (fun id hid => by rw [e3 id (Nat.lt_of_lt_of_le hid hle), hob id hid]) hF2 (fun t ht hnd => ?_) (by have := left_set hls.size hi hun; omega)
      subst hv
      cases hdst : c.o.dst with
      | none => exact hLk t ht hnd
      | some d =>
        have hgd : ((putC (some d)).put v Lk).get t = if t = d then v else Lk.get t := Loc.get_put t d ht (hd d hdst) v Lk
        rw [hgd]
        by_cases htd : t = d
        · subst htd
          refine absurd (mem_dsts hdst ?_ ?_ hc) hnd
          · exact ways_sub h2 c.i (by rw [testBit_lor, testBit_bit]; simp)
          · cases hb : dn0.testBit c.i with
            | false => rfl
            | true =>
              have := hdn c.i hb
              rw [(readyM_iff.1 hr).1] at this
              cases this
        · rw [if_neg htd]; exact hLk t ht hnd
    have hΦ : ∀ i, Φ i wk := fun i => hF i ρk Hk wk he hle hS.sim (fun p hp => by cases hp)
    rcases ways_succ h with ⟨h1, h2⟩ | ⟨c, h1, h2, h3, h4, h5⟩ | ⟨⟨c, h1, h2⟩, h3⟩
    · exact fin dn Lk Hk ρk ak wk listedk f Φ h1 h2 hls hcl hS he hle hob hF hLk hf
    · obtain ⟨f, rfl, hri, L1, H1, k1, k2⟩ := go c h1 h2 h5
      have hco := cands_ok h1
      obtain ⟨g1, g2, ⟨v, g3⟩, g4, _⟩ := try_ok (K := fun _ _ => True) trivial ht hη hS.sim hS.loc hS.size k1 (fun _ _ _ _ _ _ _ _ => trivial)
      have hd := dstOk_some g2 ht hS.size
      have hP : ∀ ch (a : Act) (w : World), ¬ After η base W nt ρ0 n0 out (.panic ch) a w := fun _ _ _ h => h
      have hw : Region.wanted c.o (yielded ops ak.tmps) = true := by simp [Region.wanted, g1]
      have key : ∃ u, (∀ w, (execOp ak.eval c.o).run P w = .ok (.value u) w) ∧ St η base W nt ρ0 n0 ρk L1 H1 (ak.put c.o.dst u) wk ∧ Hk.nx ≤ H1.nx := by
        have hp := hco.pur
        rw [h3] at hp
        have k3 := k1
        unfold tryOper at k3
        rw [g1, g2] at k3
        unfold tryC at k3
        cases hop : opC P c.o.op with
        | tot g =>
          rw [hop] at k3
          injection k3 with k3
          injection k3 with k4 k5
          subst k4
          subst k5
          obtain ⟨u, r1, r5⟩ := tot_sound hop η ρk Hk.nx Lk ak hS.loc
          exact ⟨u, r1, ⟨hS.sim, hS.loc.put r5 hd, by rw [put_size]; exact hS.size, hS.ext, hS.le⟩, Nat.le_refl _⟩
        | pur g =>
          rw [hop] at k3
          obtain ⟨v, k6, k7⟩ := oget_some k3
          injection k7 with k7
          injection k7 with k4 k5
          subst k4
          subst k5
          obtain ⟨u, r1, r5⟩ := pur_sound hop η ρk Hk.nx Lk ak v hη hS.loc k6
          exact ⟨u, r1, ⟨hS.sim, hS.loc.put r5 hd, by rw [put_size]; exact hS.size, hS.ext, hS.le⟩, Nat.le_refl _⟩
        | look g => rw [hop] at hp; cases hp
        | new g => rw [hop] at hp; cases hp
        | eff g => rw [hop] at hp; cases hp
        | no => rw [hop] at hp; cases hp
      obtain ⟨u, r1, r2, r3⟩ := key
      refine wpAnyF_first (v := u) (b := true) (e := execOp ak.eval c.o) hco.get hns hP (X := fun _ => True) (fun w _ => .inl ⟨rfl, r1 w⟩) f Φ listedk ak wk (free_of hco hls h4) hri hcl ⟨hw, rfl⟩ ?_
      exact k2 _ ρk _ wk (fun i ρ2 H2 w2 e1 e2 e3 e4 => ⟨hF i ρ2 H2 w2 e1 e2 e3 e4, fun _ => trivial⟩) r2 (Ext.refl _ _) r3 g4 ⟨v, g3⟩ (fun t ht => (hd t ht).1)
    · obtain ⟨f, rfl, hri0, _⟩ := go c h1 h2 (h3 c h1 h2)
      refine ⟨hΦ, fun h => (by rw [h] at hri0; cases hri0), fun j hj => ?_⟩
      obtain ⟨d, hd1, hd2, hd3⟩ := (ready_iff (P := P) hls).1 hj
      subst hd2
      obtain ⟨f', hff, hri, L1, H1, k1, k2⟩ := go d hd1 hd3 (h3 d hd1 hd3)
      obtain rfl : f = f' := by omega
      have hco := cands_ok hd1
      unfold wpOp
      simp only [hco.get]
      obtain ⟨g1, g2, ⟨v, g3⟩, g4, _⟩ := try_ok (K := fun _ _ => True) trivial ht hη hS.sim hS.loc hS.size k1 (fun _ _ _ _ _ _ _ _ => trivial)
      have hd := dstOk_some g2 ht hS.size
      rw [if_pos (by simp [Region.wanted, g1])]
      left
      refine (try_ok trivial ht hη hS.sim hS.loc hS.size k1 (fun ρ' w' a' e1 e2 e3 e4 e5 => ?_)).2.2.2.2 _
      refine k2 _ ρ' a' w' (fun i ρ2 H2 w2 e1 e2 e3 e4 hna => hF i ρ2 H2 w2 e1 e2 e3 e4) ⟨e3, e4, e5, hS.ext.trans e1 hS.le, Nat.le_trans hS.le e2⟩ e1 e2 g4 ⟨v, g3⟩ (fun t ht => (hd t ht).1)
end
end Go.Proofs.YtomicolllbhdaaaGreat.Ev
namespace Go.Proofs.YtomicolllbhdaaaGreat.Ev
open Go.RowKit (Below)
set_option linter.unusedVariables false
section
variable {P : Program} {ops : Array Oper} {η : Nat → Value} {base : Nat} {W w w' : World} {ρ ρ' ρ0 : Ren} {H H' : Heap} {L : Loc} {a : Act} {nx nx' n0 : Nat}
theorem isNil_of {α : Type} {l : List α} (h : isNil l = true) : l = [] := by
  cases l with
  | nil => rfl
  | cons x l => cases h
theorem grp_ok {nt dn goal : Nat} {next : DrawC} {listed : Array Bool} {cb : CB} {out : Out} (hns : ∀ (j : Nat) (o : Oper) cs b, ops[j]? = some o → o.op ≠ .select cs b) (ht : nt ≤ 256) (hη : Leaves η) (hcb : CBok P η base W cb) (hn : out ≠ .fail)
    (hls : Ls ops listed dn) (hcl : Closed ops listed) (hnext : ∀ listed', Ls ops listed' goal → Closed ops listed' → NextOk P ops η base W nt ρ0 n0 cb out listed' next) :
    NextOk P ops η base W nt ρ0 n0 cb out listed (grpC P nt (cands P ops) dn goal next) := by
  intro f F Φ ρ L H a w hf h hS hΦ hF
  have h : (Bool.rec .fail (Option.rec .fail (fun p => Bool.rec .fail (Bool.rec .fail (next.run cb F (maskL (dsts (cands P ops) dn goal) p.1 L) ⟨p.2.nx, H.mem⟩) (emptyN H (Nat.sub p.2.nx H.nx)))
    (ways P nt (cands P ops) goal (fun Lk Hk => and' (agree (dsts (cands P ops) dn goal) (maskL (dsts (cands P ops) dn goal) p.1 L) Lk) (Nat.beq Hk.nx p.2.nx)) 64 dn L H)) (way1 P nt (cands P ops) goal 64 dn L H)) (isNil F) : Out) = out := h
  obtain ⟨h1, h2⟩ := brec_fail h hn
  obtain rfl := isNil_of h1
  cases hw : way1 P nt (cands P ops) goal 64 dn L H with
  | none => rw [hw] at h2; exact absurd h2.symm hn
  | some p =>
    rw [hw] at h2
    obtain ⟨h3, h4⟩ := brec_fail h2 hn
    obtain ⟨h5, h6⟩ := brec_fail h4 hn
    by_cases hlt : ∀ d ∈ dsts (cands P ops) dn goal, d < 256
    · refine ways_ok (H := H) (L := L) (ρ := ρ) hns ht hη hcb hn (fun t ht hnd => ?_) h5 h6 hnext 64 dn L H ρ a w listed f Φ h3 hls hcl (fun j hj => hj) hS (Ext.refl _ _) (Nat.le_refl _) (fun _ _ => rfl) hF (fun _ _ _ => rfl) hf
      rw [maskL_get hlt t ht, if_neg hnd]
    · exfalso
      apply hlt
      -- the test behind any way asks it
      have aux : ∀ (n dn' : Nat) (L' : Loc) (H' : Heap), ways P nt (cands P ops) goal (fun Lk Hk => and' (agree (dsts (cands P ops) dn goal) (maskL (dsts (cands P ops) dn goal) p.1 L) Lk) (Nat.beq Hk.nx p.2.nx)) n dn' L' H' = true →
          ∃ Lk, agree (dsts (cands P ops) dn goal) (maskL (dsts (cands P ops) dn goal) p.1 L) Lk = true := by
        intro n
        induction n with
        | zero =>
          intro dn' L' H' h
          have h : (Bool.rec false (and' (agree (dsts (cands P ops) dn goal) (maskL (dsts (cands P ops) dn goal) p.1 L) L') (Nat.beq H'.nx p.2.nx)) (Nat.beq dn' goal) : Bool) = true := h
          have h := (brec_false h).2
          rw [and'_eq, Bool.and_eq_true] at h
          exact ⟨L', h.1⟩
        | succ n ih =>
          intro dn' L' H' h
          have go : ∀ c, goW P nt (cands P ops) goal (fun Lk Hk => and' (agree (dsts (cands P ops) dn goal) (maskL (dsts (cands P ops) dn goal) p.1 L) Lk) (Nat.beq Hk.nx p.2.nx)) n dn' L' H' c = true →
              ∃ Lk, agree (dsts (cands P ops) dn goal) (maskL (dsts (cands P ops) dn goal) p.1 L) Lk = true := fun c hc => by
            obtain ⟨L1, H1, _, h2⟩ := goW_some hc
            exact ih _ _ _ h2
          rcases ways_succ h with ⟨_, h⟩ | ⟨c, _, _, _, _, hc⟩ | ⟨⟨c, h1, h2⟩, h3⟩
          · rw [and'_eq, Bool.and_eq_true] at h
            exact ⟨L', h.1⟩
          · exact go c hc
          · exact go c (h3 c h1 h2)
      obtain ⟨Lk, hk⟩ := aux _ _ _ _ h3
      exact fun d hd => (agree_ok hk d hd).1
/-- A table of what was waited for. -/
def TblOk (ops : Array Oper) (tbl : List (Nat × Nat)) : Prop := ∀ p ∈ tbl, ∀ j, p.2.testBit j = true → Anc ops j p.1
theorem ancOf_iff {aft j : Nat} : ∀ {tbl : List (Nat × Nat)}, (ancOf tbl aft).testBit j = true → ∃ p ∈ tbl, aft.testBit p.1 = true ∧ (j = p.1 ∨ p.2.testBit j = true)
  | [], h => by simp [ancOf] at h
  | q :: tbl, h => by
    replace h : (Bool.rec (ancOf tbl aft) (Nat.lor (Nat.lor (bit q.1) q.2) (ancOf tbl aft)) (Nat.testBit aft q.1) : Nat).testBit j = true := h
    cases hq : Nat.testBit aft q.1 with
    | false =>
      rw [hq] at h
      obtain ⟨p, hp, h1⟩ := ancOf_iff h
      exact ⟨p, List.mem_cons_of_mem _ hp, h1⟩
    | true =>
      rw [hq] at h
      replace h : (Nat.lor (Nat.lor (bit q.1) q.2) (ancOf tbl aft)).testBit j = true := h
      rw [testBit_lor, testBit_lor, testBit_bit, Bool.or_eq_true, Bool.or_eq_true, decide_eq_true_iff] at h
      rcases h with h | h
      · exact ⟨q, List.mem_cons_self, hq, h⟩
      · obtain ⟨p, hp, h1⟩ := ancOf_iff h
        exact ⟨p, List.mem_cons_of_mem _ hp, h1⟩
theorem TblOk.anc {tbl : List (Nat × Nat)} (h : TblOk ops tbl) {c : Cand} (hc : CandOk P ops c) : ∀ j, (ancOf tbl c.aft).testBit j = true → Anc ops j c.i := by
  intro j hj
  obtain ⟨p, hp, h1, h2⟩ := ancOf_iff hj
  rw [hc.aft, aftM_iff] at h1
  obtain ⟨e, he, hb, heq⟩ := h1
  rcases h2 with rfl | h2
  · exact .one hc.get he hb heq
  · exact .more (h p hp j h2) hc.get he hb heq
theorem pick1_ok {dn : Nat} {c : Cand} {md : Md} (h : pick1 (cands P ops) dn = some (c, md)) : c ∈ cands P ops ∧ readyM dn c = true ∧ MdOk P ops dn c md := by
  unfold pick1 at h
  split at h
  · rename_i d hd
    injection h with h
    injection h with h1 h2
    subst h1
    subst h2
    obtain ⟨h1, h2⟩ := findM_some hd
    rw [and'_eq, and'_eq, Bool.and_eq_true, Bool.and_eq_true] at h2
    exact ⟨h1, h2.1.1, h2.1.2, h2.2⟩
  · split at h
    · rename_i hone
      split at h
      · rename_i d hd
        injection h with h
        injection h with h1 h2
        subst h1
        subst h2
        obtain ⟨h1, h2⟩ := findM_some hd
        exact ⟨h1, h2, fun e he hr => countM_one (Nat.eq_of_beq_eq_true hone) hd e he hr⟩
      · cases h
    · split at h
      · rename_i d hd
        injection h with h
        injection h with h1 h2
        subst h1
        subst h2
        obtain ⟨h1, h2⟩ := findM_some hd
        rw [and'_eq, and'_eq, Bool.and_eq_true, Bool.and_eq_true] at h2
        exact ⟨h1, h2.1.1, h2.1.2, h2.2⟩
      · cases h
theorem plan_ok {nt : Nat} {cb : CB} {out : Out} (hns : ∀ (j : Nat) (o : Oper) cs b, ops[j]? = some o → o.op ≠ .select cs b) (ht : nt ≤ 256) (hη : Leaves η) (hcb : CBok P η base W cb) (hn : out ≠ .fail) :
    ∀ (n dn : Nat) (tbl : List (Nat × Nat)) (r : List PStep) (listed : Array Bool), plan P (cands P ops) n dn tbl = some r → Ls ops listed dn → Closed ops listed → TblOk ops tbl →
      NextOk P ops η base W nt ρ0 n0 cb out listed (drawSteps P nt ops (cands P ops) r) := by
  have done : ∀ dn listed, isNil (filterM (readyM dn) (cands P ops)) = true → Ls ops listed dn → NextOk P ops η base W nt ρ0 n0 cb out listed (drawSteps P nt ops (cands P ops) []) := by
    intro dn listed hnil hls f F Φ ρ L H a w hf h hS hΦ hF
    have h : Out.norm L H = out := h
    refine wpAnyF_done hΦ ?_ ⟨L, H, ρ, h.symm, hS⟩ f
    cases hr : Region.ready .any ops listed with
    | nil => rfl
    | cons i m =>
      obtain ⟨c, h1, h2, h3⟩ := (ready_iff (P := P) hls).1 (show i ∈ Region.ready .any ops listed by rw [hr]; exact List.mem_cons_self)
      rw [filterM_nil hnil c h1] at h3
      cases h3
  intro n
  induction n with
  | zero =>
    intro dn tbl r listed h hls hcl htb
    have h : (match isNil (filterM (readyM dn) (cands P ops)) with | true => some [] | false => none : Option (List PStep)) = some r := h
    split at h
    · rename_i hnil
      injection h with h
      subst h
      exact done dn listed hnil hls
    · cases h
  | succ n ih =>
    intro dn tbl r listed h hls hcl htb
    have h : (match pick1 (cands P ops) dn with
      | some (c, md) => match plan P (cands P ops) n (Nat.lor (bit c.i) dn) ((c.i, ancOf tbl c.aft) :: tbl) with
        | some r => some (.op c md (ancOf tbl c.aft) :: r)
        | none => none
      | none => match isNil (filterM (readyM dn) (cands P ops)) with
        | true => some []
        | false => match plan P (cands P ops) n (reach P (cands P ops) 64 dn) (List.rec tbl (fun c _ r => Bool.rec r ((c.i, 0) :: r) (Bool.rec (Nat.testBit (reach P (cands P ops) 64 dn) c.i) false (Nat.testBit dn c.i))) (cands P ops)) with
          | some r => some (.grp dn (reach P (cands P ops) 64 dn) :: r)
          | none => none : Option (List PStep)) = some r := h
    split at h
    · rename_i c md hp
      obtain ⟨h1, h2, h3⟩ := pick1_ok hp
      have hco := cands_ok h1
      have hi : c.i < ops.size := (Array.getElem?_eq_some_iff.1 hco.get).1
      have hri : c.i ∈ Region.ready .any ops listed := (ready_iff (P := P) hls).2 ⟨c, h1, rfl, h2⟩
      split at h
      · rename_i r' hr'
        injection h with h
        subst h
        have hn' := ih _ _ r' _ hr' (hls.set hi) (hcl.set hri) (fun p hp => by
          rcases List.mem_cons.1 hp with rfl | hp
          · exact htb.anc hco
          · exact htb p hp)
        exact step_ok h1 hns h2 h3 (htb.anc hco) hls hcl ht hη hcb hn hn'
      · cases h
    · split at h
      · rename_i hnil
        injection h with h
        subst h
        exact done dn listed hnil hls
      · split at h
        · rename_i r' hr'
          injection h with h
          subst h
          refine grp_ok hns ht hη hcb hn hls hcl fun listed' hls' hcl' => ih _ _ r' listed' hr' hls' hcl' ?_
          generalize reach P (cands P ops) 64 dn = g
          have : ∀ l : List Cand, TblOk ops (List.rec tbl (fun c _ r => Bool.rec r ((c.i, 0) :: r) (Bool.rec (Nat.testBit g c.i) false (Nat.testBit dn c.i))) l : List (Nat × Nat)) := by
            intro l
            induction l with
            | nil => exact htb
            | cons c l ih =>
              show TblOk ops (Bool.rec (List.rec tbl (fun c _ r => Bool.rec r ((c.i, 0) :: r) (Bool.rec (Nat.testBit g c.i) false (Nat.testBit dn c.i))) l) ((c.i, 0) :: List.rec tbl (fun c _ r => Bool.rec r ((c.i, 0) :: r) (Bool.rec (Nat.testBit g c.i) false (Nat.testBit dn c.i))) l) (Bool.rec (Nat.testBit g c.i) false (Nat.testBit dn c.i)) : List (Nat × Nat))
              cases (Bool.rec (Nat.testBit g c.i) false (Nat.testBit dn c.i) : Bool) with
              | false => exact ih
              | true =>
                intro p hp j hj
                rcases List.mem_cons.1 hp with rfl | hp
                · simp at hj
                · exact ih p hp j hj
          exact this _
        · cases h
theorem rep_get (n i : Nat) : (Array.replicate n false).getD i false = false := by
  rw [Array.getD_eq_getD_getElem?, Array.getElem?_replicate]
  split <;> rfl
/-- A region, drawn or not. -/
theorem region_ok {nt id : Nat} {dr : Bool} {cb : CB} {out : Out} (hm : P.follows .mixedOrders = true) (ht : nt ≤ 256) (hη : Leaves η) (hcb : CBok P η base W cb) (hn : out ≠ .fail) (hS : St η base W nt ρ0 n0 ρ L H a w)
    (h : (regionC P nt ops dr).run cb L H = out) : (Code.region id ops dr).wp P (After η base W nt ρ0 n0 out) a w := by
  cases dr with
  | false =>
    have := steps_ok (P := P) (ops := ops) ht hη hcb hn ops.size 0 ρ L H a w (by omega) h hS
    exact wp_region (by rw [List.range_eq_range']; exact this)
  | true =>
    have h : (drawC P nt ops).run cb L H = out := h
    unfold drawC at h
    simp only at h
    split at h
    · rename_i r hsel hp
      have hns : ∀ (j : Nat) (o : Oper) cs b, ops[j]? = some o → o.op ≠ .select cs b := by
        intro j o cs b ho hop
        obtain ⟨c, hc, rfl⟩ := cands_all (P := P) (Array.getElem?_eq_some_iff.1 ho).1
        have h1 := allM_iff hsel c hc
        have h2 := (cands_ok hc).get
        rw [ho] at h2
        injection h2 with h2
        rw [← h2, hop] at h1
        cases h1
      refine wp_region_any hm (wpAnyF_any (Φ := fun _ _ => True) ?_)
      refine plan_ok hns ht hη hcb hn ops.size 0 [] r (Array.replicate ops.size false) hp ⟨by simp, fun i => ?_⟩ (fun j o ho hj => ?_) (fun p hp => by cases hp) ops.size [] _ ρ L H a _ (left_le _) h ?_ (fun _ => trivial) (fun _ _ _ _ _ _ _ _ => trivial)
      · rw [rep_get]; simp
      · rw [rep_get] at hj; cases hj
      · exact ⟨hS.sim.same rfl rfl rfl rfl, hS.loc, hS.size, hS.ext, hS.le⟩
    · exact absurd h.symm hn
end
end Go.Proofs.YtomicolllbhdaaaGreat.Ev
namespace Go.Proofs.YtomicolllbhdaaaGreat.Ev
open Go.RowKit (Below)
set_option linter.unusedVariables false
section
variable {P : Program} {η : Nat → Value} {base : Nat} {W w w' : World} {ρ ρ' ρ0 ρ1 : Ren} {H H' : Heap} {L : Loc} {a : Act} {nx nx' n0 n1 nt : Nat}
theorem St.now (h : St η base W nt ρ0 n0 ρ L H a w) : St η base W nt ρ H.nx ρ L H a w := ⟨h.sim, h.loc, h.size, Ext.refl _ _, Nat.le_refl _⟩
/-- A loop that the evaluator has gone round to its end. -/
theorem loop_ok {c : Code} {x : CodeC} {cb : CB} {out : Out} (hn : out ≠ .fail)
    (hx : ∀ (L : Loc) (H : Heap) (out : Out) (ρ : Ren) (a : Act) (w : World), x.run cb L H = out → out ≠ .fail → St η base W nt ρ0 n0 ρ L H a w → c.wp P (After η base W nt ρ0 n0 out) a w) :
    ∀ (n : Nat) (L : Loc) (H : Heap) (ρ : Ren) (a : Act) (w : World), loopN x n cb L H = out → St η base W nt ρ0 n0 ρ L H a w → ∀ (b : Frame) (k : List Item) (cs : List Frame),
      ∃ e a' w', After η base W nt ρ0 n0 out e a' w' ∧ Arrives P (lone (b.at a (.code c :: .inLoop c :: k)) cs w) b k cs e a' w'
  | 0, L, H, ρ, a, w, h, hS, b, k, cs => absurd h.symm hn
  | n + 1, L, H, ρ, a, w, h, hS, b, k, cs => by
    have h : (Out.rec (loopN x n cb) .exit .ret .fail (x.run cb L H) : Out) = out := h
    cases ho : x.run cb L H with
    | fail => rw [ho] at h; exact absurd h.symm hn
    | norm L1 H1 =>
      rw [ho] at h
      obtain ⟨e, a1, w1, hq, harr⟩ := hx L H _ ρ a w ho (by simp) hS b (.inLoop c :: k) cs
      cases e with
      | normal =>
        obtain ⟨L2, H2, ρ2, h1, h2⟩ := hq
        injection h1 with h1 h3
        subst h1
        subst h3
        obtain ⟨e2, a2, w2, hq2, harr2⟩ := loop_ok hn hx n L1 H1 ρ2 a1 w1 h h2 b k cs
        exact ⟨e2, a2, w2, hq2, .of_steps (Steps.trans harr (.one step_inLoop)) harr2⟩
      | exit id => obtain ⟨_, _, _, h1, _⟩ := hq; cases h1
      | ret => obtain ⟨_, _, _, h1, _⟩ := hq; cases h1
      | goto l => exact hq.elim
      | panic ch => exact hq.elim
      | outgrown => exact hq.elim
    | exit i L1 H1 =>
      rw [ho] at h
      have h : Out.exit i L1 H1 = out := h
      obtain ⟨e, a1, w1, hq, harr⟩ := hx L H _ ρ a w ho (by simp) hS b (.inLoop c :: k) cs
      cases e with
      | normal => obtain ⟨_, _, _, h1, _⟩ := hq; cases h1
      | exit id => rw [h] at hq; exact ⟨_, a1, w1, hq, .pass (x := .inLoop c) rfl (fun _ _ => .inl (by simp)) harr⟩
      | ret => obtain ⟨_, _, _, h1, _⟩ := hq; cases h1
      | goto l => exact hq.elim
      | panic ch => exact hq.elim
      | outgrown => exact hq.elim
    | ret L1 H1 =>
      rw [ho] at h
      have h : Out.ret L1 H1 = out := h
      obtain ⟨e, a1, w1, hq, harr⟩ := hx L H _ ρ a w ho (by simp) hS b (.inLoop c :: k) cs
      cases e with
      | normal => obtain ⟨_, _, _, h1, _⟩ := hq; cases h1
      | ret => rw [h] at hq; exact ⟨_, a1, w1, hq, .pass (x := .inLoop c) rfl (fun _ _ => .inl (by simp)) harr⟩
      | exit id => obtain ⟨_, _, _, h1, _⟩ := hq; cases h1
      | goto l => exact hq.elim
      | panic ch => exact hq.elim
      | outgrown => exact hq.elim
noncomputable def loopR (a : CodeC) : CodeC := ⟨fun cb L H => loopN a rounds cb L H⟩
theorem codeC_loop0 {x : Code} : codeC P nt (.loop x) = loopR (codeC P nt x) := rfl
theorem loopR_run {a : CodeC} {cb : CB} : (loopR a).run cb L H = loopN a rounds cb L H := by
  delta loopR; with_reducible rfl
theorem codeC_loop {x : Code} {cb : CB} : (codeC P nt (.loop x)).run cb L H = loopN (codeC P nt x) rounds cb L H := by rw [codeC_loop0, loopR_run]
theorem code_ok {cb : CB} (hm : P.follows .mixedOrders = true) (ht : nt ≤ 256) (hη : Leaves η) (hcb : CBok P η base W cb) (c : Code) :
    ∀ (L : Loc) (H : Heap) (out : Out) (ρ : Ren) (a : Act) (w : World), (codeC P nt c).run cb L H = out → out ≠ .fail → St η base W nt ρ0 n0 ρ L H a w → c.wp P (After η base W nt ρ0 n0 out) a w := by
  induction c with
  | skip => intro L H out ρ a w h hn hS; exact wp_skip ⟨L, H, ρ, Eq.symm h, hS⟩
  | region id ops dr => intro L H out ρ a w h hn hS; exact region_ok hm ht hη hcb hn hS h
  | seq x y ihx ihy =>
    intro L H out ρ a w h hn hS
    have h : (Out.rec ((codeC P nt y).run cb) .exit .ret .fail ((codeC P nt x).run cb L H) : Out) = out := h
    apply wp_seq
    cases ho : (codeC P nt x).run cb L H with
    | fail => rw [ho] at h; exact absurd h.symm hn
    | norm L1 H1 =>
      rw [ho] at h
      refine wp_mono (ihx L H _ ρ a w ho (by simp) hS) fun e a w he => ?_
      cases e with
      | normal =>
        obtain ⟨L2, H2, ρ2, h1, h2⟩ := he
        injection h1 with h1 h3
        subst h1
        subst h3
        exact ihy L1 H1 out ρ2 a w h hn h2
      | exit id => obtain ⟨_, _, _, h1, _⟩ := he; cases h1
      | ret => obtain ⟨_, _, _, h1, _⟩ := he; cases h1
      | goto l => exact he.elim
      | panic ch => exact he.elim
      | outgrown => exact he.elim
    | exit i L1 H1 =>
      rw [ho] at h
      have h : Out.exit i L1 H1 = out := h
      subst h
      refine wp_mono (ihx L H _ ρ a w ho (by simp) hS) fun e a w he => ?_
      cases e with
      | normal => obtain ⟨_, _, _, h1, _⟩ := he; cases h1
      | _ => exact he
    | ret L1 H1 =>
      rw [ho] at h
      have h : Out.ret L1 H1 = out := h
      subst h
      refine wp_mono (ihx L H _ ρ a w ho (by simp) hS) fun e a w he => ?_
      cases e with
      | normal => obtain ⟨_, _, _, h1, _⟩ := he; cases h1
      | _ => exact he
  | cond x y z ihy ihz =>
    intro L H out ρ a w h hn hS
    have h : (Option.rec .fail (fun t => Bool.rec ((codeC P nt z).run cb L H) ((codeC P nt y).run cb L H) t) ((gOf x).g L).vb : Out) = out := h
    cases hb : ((gOf x).g L).vb with
    | none => rw [hb] at h; exact absurd h.symm hn
    | some t =>
      rw [hb] at h
      have hx := tells_bool (gOf_sound hS.loc x) hb
      cases t with
      | true => exact wp_cond_true hx (ihy L H out ρ a w h hn hS)
      | false => exact wp_cond_false hx (ihz L H out ρ a w h hn hS)
  | block id x ih =>
    intro L H out ρ a w h hn hS
    have h : (Out.rec .norm (fun i L H => Bool.rec (.exit i L H) (.norm L H) (Nat.beq i id)) .ret .fail ((codeC P nt x).run cb L H) : Out) = out := h
    apply wp_block
    cases ho : (codeC P nt x).run cb L H with
    | fail => rw [ho] at h; exact absurd h.symm hn
    | norm L1 H1 =>
      rw [ho] at h
      have h : Out.norm L1 H1 = out := h
      subst h
      refine wp_mono (ih L H _ ρ a w ho (by simp) hS) fun e a w he => ?_
      cases e with
      | exit i => obtain ⟨_, _, _, h1, _⟩ := he; cases h1
      | _ => exact he
    | exit i L1 H1 =>
      rw [ho] at h
      have h : (Bool.rec (.exit i L1 H1) (.norm L1 H1) (Nat.beq i id) : Out) = out := h
      refine wp_mono (ih L H _ ρ a w ho (by simp) hS) fun e a w he => ?_
      cases e with
      | exit j =>
        obtain ⟨L2, H2, ρ2, h1, h2⟩ := he
        injection h1 with h1 h3 h4
        subst h1
        subst h3
        subst h4
        show (if i = id then _ else _)
        cases hb : Nat.beq i id with
        | true =>
          rw [hb] at h
          rw [if_pos (Nat.eq_of_beq_eq_true hb)]
          exact ⟨L1, H1, ρ2, h.symm, h2⟩
        | false =>
          rw [hb] at h
          rw [if_neg (by rintro rfl; rw [Nat.beq_refl] at hb; cases hb)]
          exact ⟨L1, H1, ρ2, h.symm, h2⟩
      | normal => obtain ⟨_, _, _, h1, _⟩ := he; cases h1
      | ret => obtain ⟨_, _, _, h1, _⟩ := he; cases h1
      | goto l => exact he.elim
      | panic ch => exact he.elim
      | outgrown => exact he.elim
    | ret L1 H1 =>
      rw [ho] at h
      have h : Out.ret L1 H1 = out := h
      subst h
      refine wp_mono (ih L H _ ρ a w ho (by simp) hS) fun e a w he => ?_
      cases e with
      | exit i => obtain ⟨_, _, _, h1, _⟩ := he; cases h1
      | _ => exact he
  | loop x ih =>
    intro L H out ρ a w h hn hS b k cs
    rw [codeC_loop] at h
    generalize rounds = n at h
    obtain ⟨e, a', w', hq, harr⟩ := loop_ok (c := x) hn ih n L H ρ a w h hS b k cs
    exact ⟨e, a', w', hq, .of_steps (.one step_loop) harr⟩
  | rangeFunc f ps x y ihx ihy => intro L H out ρ a w h hn hS; exact absurd (Eq.symm h) hn
  | exit id => intro L H out ρ a w h hn hS; exact wp_exit ⟨L, H, ρ, Eq.symm h, hS⟩
  | scope x ih => intro L H out ρ a w h hn hS; exact absurd (Eq.symm h) hn
  | label l => intro L H out ρ a w h hn hS; exact wp_label ⟨L, H, ρ, Eq.symm h, hS⟩
  | goto l => intro L H out ρ a w h hn hS; exact absurd (Eq.symm h) hn
  | ret => intro L H out ρ a w h hn hS; exact wp_ret ⟨L, H, ρ, Eq.symm h, hS⟩
  | refuse y => intro L H out ρ a w h hn hS; exact absurd (Eq.symm h) hn
end
end Go.Proofs.YtomicolllbhdaaaGreat.Ev
namespace Go.Proofs.YtomicolllbhdaaaGreat.Ev
open Go.RowKit (Below)
set_option linter.unusedVariables false
section
variable {P : Program} {η : Nat → Value} {base : Nat} {W w w' : World} {ρ ρ' ρ0 ρ1 : Ren} {H H' : Heap} {L : Loc} {a : Act} {nx nx' n0 n1 nt : Nat}
theorem argsIn_go : ∀ (l : List AV) (i : Nat) (L : Loc) (t : Nat), i + l.length ≤ 256 → t < 256 → (List.rec (fun _ L => L) (fun v _ ih i L => ih (Nat.succ i) (Loc.put i v L)) l i L : Loc).get t = if i ≤ t ∧ t < i + l.length then l.getD (t - i) (.tup []) else L.get t
  | [], i, L, t, hl, ht => by rw [if_neg (by rintro ⟨_, h⟩; simp at h; omega)]
  | v :: l, i, L, t, hl, ht => by
    have e : (List.rec (fun _ L => L) (fun v _ ih i L => ih (Nat.succ i) (Loc.put i v L)) (v :: l) i L : Loc) = (List.rec (fun _ L => L) (fun v _ ih i L => ih (Nat.succ i) (Loc.put i v L)) l (i + 1) (Loc.put i v L) : Loc) := rfl
    simp only [List.length_cons] at hl
    rw [e, argsIn_go l (i + 1) (Loc.put i v L) t (by omega) ht, Loc.get_put t i ht (by omega)]
    simp only [List.length_cons]
    by_cases h1 : t = i
    · subst h1
      rw [if_neg (by omega), if_pos rfl, if_pos (by omega)]
      simp
    · by_cases h2 : i + 1 ≤ t ∧ t < i + 1 + l.length
      · rw [if_pos h2, if_pos (by omega)]
        obtain ⟨k, rfl⟩ : ∃ k, t = i + 1 + k := ⟨t - (i + 1), by omega⟩
        rw [show i + 1 + k - (i + 1) = k by omega, show i + 1 + k - i = k + 1 by omega]
        simp
      · rw [if_neg h2, if_neg h1, if_neg (by omega)]
theorem argsIn_get (l : List AV) (L : Loc) (t : Nat) (hl : l.length ≤ 256) (ht : t < 256) : (argsIn l L).get t = if t < l.length then l.getD t (.tup []) else L.get t := by
  refine Eq.trans (argsIn_go l 0 L t (by omega) ht) ?_
  simp
/-- A function's slots at its beginning. -/
theorem args_loc {args : List AV} (hl : args.length ≤ nt) (ht : nt ≤ 256) (hw : ∀ x ∈ args, Wf ρ nx x) :
    LocOk η ρ nx (argsIn args L0) { tmps := (args.map (val ρ η)).toArray ++ Array.replicate (nt - (args.map (val ρ η)).toArray.size) undef, defers := [] } := by
  refine ⟨fun t ht' => ?_, rfl⟩
  right
  rw [argsIn_get args L0 t (by omega) ht']
  by_cases h : t < args.length
  · rw [if_pos h]
    have hg : args[t]? = some (args[t]) := List.getElem?_eq_getElem h
    have hm : args[t] ∈ args := List.getElem_mem h
    rw [List.getD_eq_getElem?_getD, hg]
    refine ⟨hw _ hm, ?_⟩
    rw [Array.getD_eq_getD_getElem?, Array.getElem?_append_left (by simpa using h)]
    simp [hg]
  · rw [if_neg h, L0_get t ht']
    refine ⟨tup_nil, ?_⟩
    rw [Array.getD_eq_getD_getElem?, Array.getElem?_append_right (by simp; omega), Array.getElem?_replicate]
    split <;> simp [val, vals, undef]
/-- What one result is. -/
def resV (a : Act) (r : ResultVar) : Sem Value :=
  match r with
  | .tmp t => pure (a.tmps.getD t undef)
  | .cell b t => do loadVar t (← asAddr (a.tmps.getD b undef))
theorem results_eq (fn : Func) (a : Act) : results fn a.tmps = (do
    let vs ← fn.results.mapM (resV a)
    pure (if h : vs.size = 1 then vs[0] else .tuple vs)) := by
  unfold results
  first
    | rfl
    | (congr 1; done)
    | (congr 1; congr 1; done)
    | (congr 1; congr 1; funext r; cases r <;> rfl)
theorem resC_ok {r : ResultVar} {v : AV} (hη : Leaves η) (hS : Sim η base W ρ H w) (hL : LocOk η ρ H.nx L a) (h : resC P r L H = some v) :
    (resV a r).run P w = .ok (val ρ η v) w ∧ Wf ρ H.nx v := by
  cases r with
  | tmp t =>
    have h : (Bool.rec none (some ((gOf (.tmp t)).g L)) ((gOf (.tmp t)).g L).ok : Option AV) = some v := h
    obtain ⟨h1, h2⟩ := brec_some h (by simp)
    injection h2 with h2
    subst h2
    obtain ⟨g1, g2⟩ := (gOf_sound hL (.tmp t)).ok h1
    have g2 : a.tmps.getD t undef = val ρ η ((gOf (.tmp t)).g L) := g2
    exact ⟨by unfold resV; simp only [g2]; rfl, g1⟩
  | cell b t =>
    unfold resC at h
    dsimp only at h
    cases hg : aggOf P t with
    | none => simp only [hg] at h; cases h
    | some bb =>
      cases bb with
      | false =>
        simp only [hg] at h
        obtain ⟨id, off, h1, h2⟩ := vprec_some h
        obtain ⟨h3, h4⟩ := tells_ptr (gOf_sound hL (.tmp b)) h1
        have h3 : a.tmps.getD b undef = .pointer (some ⟨ρ.b id, ρ.d id + off, none⟩) := h3
        obtain ⟨g1, g2, g3⟩ := hS.cell h4 h2
        refine ⟨?_, g2⟩
        unfold resV
        simp only [h3]
        simp [asAddr, loadVar, run_isAgg hg, g1]
      | true =>
        cases hz : szOf P t with
        | none => simp only [hg, hz] at h; cases h
        | some n =>
          simp only [hg, hz] at h
          obtain ⟨id, off, h1, h2⟩ := vprec_some h
          obtain ⟨l, h5, h6⟩ := oget_some h2
          injection h6 with h6
          subst h6
          obtain ⟨h3, h4⟩ := tells_ptr (gOf_sound hL (.tmp b)) h1
          have h3 : a.tmps.getD b undef = .pointer (some ⟨ρ.b id, ρ.d id + off, none⟩) := h3
          obtain ⟨g1, g2, g3, g4⟩ := hS.cells h4 h5
          refine ⟨?_, .agg g3 g4⟩
          unfold resV
          simp only [h3]
          have := run_cells (P := P) (l := l.map (val ρ η)) (k := n) (by simp [g1]) g2
          simp [asAddr, loadVar, run_isAgg hg, run_szOf hz, this, val, vals_eq]
theorem run_mapM_ok {α β : Type} {f : α → Sem β} {g : α → β} : ∀ {l : List α}, (∀ x ∈ l, (f x).run P w = .ok (g x) w) → (l.mapM f).run P w = .ok (l.map g) w
  | [], h => rfl
  | x :: l, h => by
    rw [List.mapM_cons]
    simp only [Sem.run_bind, h x List.mem_cons_self, Result.andThen_ok, run_mapM_ok (fun y hy => h y (List.mem_cons_of_mem _ hy)), Sem.run_pure, List.map_cons]
theorem ressC_ok (hη : Leaves η) (hS : Sim η base W ρ H w) (hL : LocOk η ρ H.nx L a) : ∀ {rs : List ResultVar} {l : List AV}, (ressC P rs).out L H = some l →
    (rs.mapM (resV a)).run P w = .ok (l.map (val ρ η)) w ∧ ∀ v ∈ l, Wf ρ H.nx v
  | [], l, h => by
    have : l = [] := by injection h with h; exact h.symm
    subst this
    exact ⟨rfl, fun v hv => by cases hv⟩
  | r :: rs, l, h => by
    have h : (Option.rec none (fun v => Option.rec none (fun l => some (v :: l)) ((ressC P rs).out L H)) (resC P r L H) : Option (List AV)) = some l := h
    obtain ⟨v, h1, h2⟩ := oget_some h
    obtain ⟨m, h3, h4⟩ := oget_some h2
    injection h4 with h4
    subst h4
    obtain ⟨g1, g2⟩ := resC_ok hη hS hL h1
    obtain ⟨g3, g4⟩ := ressC_ok hη hS hL h3
    refine ⟨?_, fun y hy => ?_⟩
    · rw [List.mapM_cons]
      simp only [Sem.run_bind, g1, Result.andThen_ok, g3, Sem.run_pure, List.map_cons]
    · rcases List.mem_cons.1 hy with rfl | hy
      · exact g2
      · exact g4 y hy
theorem outC_ok {fn : Func} {v : AV} (hη : Leaves η) (hS : Sim η base W ρ H w) (hL : LocOk η ρ H.nx L a) (h : (outC P fn.results).out L H = .some v H') : H' = H ∧ (results fn a.tmps).run P w = .ok (val ρ η v) w ∧ Wf ρ H.nx v := by
  have key : ∀ {l : List AV}, (ressC P fn.results.toList).out L H = some l → (results fn a.tmps).run P w = .ok (if h : (l.map (val ρ η)).toArray.size = 1 then (l.map (val ρ η)).toArray[0] else .tuple (l.map (val ρ η)).toArray) w ∧ (∀ v ∈ l, Wf ρ H.nx v) ∧ l.length = fn.results.size := by
    intro l hl
    obtain ⟨g1, g2⟩ := ressC_ok hη hS hL hl
    have hlen : ∀ {rs : List ResultVar} {l : List AV}, (ressC P rs).out L H = some l → l.length = rs.length := by
      intro rs
      induction rs with
      | nil => intro l h; injection h with h; subst h; rfl
      | cons r rs ih =>
        intro l h
        have h : (Option.rec none (fun v => Option.rec none (fun l => some (v :: l)) ((ressC P rs).out L H)) (resC P r L H) : Option (List AV)) = some l := h
        obtain ⟨v, h1, h2⟩ := oget_some h
        obtain ⟨m, h3, h4⟩ := oget_some h2
        injection h4 with h4
        subst h4
        simp [ih h3]
    refine ⟨?_, g2, by rw [hlen hl]; simp⟩
    rw [results_eq, Array.mapM_eq_mapM_toList]
    simp only [Sem.run_bind, Sem.run_map, g1, Result.andThen_ok, Sem.run_pure]
  unfold outC at h
  simp only at h
  cases hb : Nat.beq fn.results.size 1 with
  | true =>
    rw [hb] at h
    have h : (Option.rec .none (fun l => Option.rec .none (fun v => .some v H) (at' l 0)) ((ressC P fn.results.toList).out L H) : Res) = .some v H' := h
    obtain ⟨l, h1, h2⟩ := ores_some h
    obtain ⟨u, h3, h4⟩ := ores_some h2
    injection h4 with h4 h5
    subst h4
    subst h5
    obtain ⟨k1, k2, k3⟩ := key h1
    rw [Nat.eq_of_beq_eq_true hb] at k3
    obtain ⟨x, rfl⟩ := List.length_eq_one_iff.1 k3
    injection h3 with h3
    subst h3
    exact ⟨rfl, by rw [k1]; simp, k2 _ List.mem_cons_self⟩
  | false =>
    rw [hb] at h
    have h : (Option.rec .none (fun l => .some (.tup l) H) ((ressC P fn.results.toList).out L H) : Res) = .some v H' := h
    obtain ⟨l, h1, h2⟩ := ores_some h
    injection h2 with h4 h5
    subst h4
    subst h5
    obtain ⟨k1, k2, k3⟩ := key h1
    refine ⟨rfl, ?_, .tup k2⟩
    rw [k1, dif_neg]
    · simp [val, vals_eq]
    · simp
      rw [k3]
      intro he
      rw [he] at hb
      cases hb
/-- A contract that is told of a function. -/
def SpOk (P : Program) (η : Nat → Value) (base : Nat) (W : World) (sp : Nat → Option FnC) : Prop :=
  ∀ f s, sp f = some s → ∀ cb, CBok P η base W cb → ∀ args H v H', s.run cb args H = .some v H' → ∀ ρ w, Sim η base W ρ H w → (∀ x ∈ args, Wf ρ H.nx x) → Calls P f (args.map (val ρ η)).toArray w fun e w' =>
      ∃ ρ', e = .returned (val ρ' η v) ∧ Ext ρ ρ' H.nx ∧ H.nx ≤ H'.nx ∧ Sim η base W ρ' H' w' ∧ Wf ρ' H'.nx v
/-- A function, of whose code it is known what it does. -/
theorem fn_ok {fn : Func} {c : Code} {f : Nat} {R : Loc → Heap → Out} {args : List AV} {v : AV} (ht : fn.ntmps ≤ 256) (hη : Leaves η) (hf : P.funcs[f]? = some fn) (hb : fn.body = some c)
    (hR : ∀ (L : Loc) (H : Heap) (out : Out) (ρ : Ren) (n0 : Nat) (a : Act) (w : World), R L H = out → out ≠ .fail → St η base W fn.ntmps ρ n0 ρ L H a w → c.wp P (After η base W fn.ntmps ρ n0 out) a w)
    (h : (Bool.rec .none (Out.rec (fun L H => (outC P fn.results).out L H) (fun _ _ _ => .none) (fun L H => (outC P fn.results).out L H) .none (R (argsIn args L0) H)) (Nat.ble (len args) fn.ntmps) : Res) = .some v H') (hS : Sim η base W ρ H w) (hw : ∀ x ∈ args, Wf ρ H.nx x) : Calls P f (args.map (val ρ η)).toArray w fun e w' =>
      ∃ ρ', e = .returned (val ρ' η v) ∧ Ext ρ ρ' H.nx ∧ H.nx ≤ H'.nx ∧ Sim η base W ρ' H' w' ∧ Wf ρ' H'.nx v := by
  obtain ⟨h1, h2⟩ := bres_some h
  have h1 : len args ≤ fn.ntmps := Nat.le_of_ble_eq_true h1
  rw [len_eq] at h1
  refine calls_of_wp hf hb ?_
  have hSt : St η base W fn.ntmps ρ H.nx ρ (argsIn args L0) H { tmps := (args.map (val ρ η)).toArray ++ Array.replicate (fn.ntmps - (args.map (val ρ η)).toArray.size) undef, defers := [] } w :=
    ⟨hS, args_loc h1 ht hw, by simp; omega, Ext.refl _ _, Nat.le_refl _⟩
  have fin : ∀ {L1 H1 ρ1 a1 w1}, (outC P fn.results).out L1 H1 = .some v H' → St η base W fn.ntmps ρ H.nx ρ1 L1 H1 a1 w1 → a1.defers = [] ∧ ∃ u, (results fn a1.tmps).run P w1 = .ok u w1 ∧ ∃ ρ', (Ending.returned u) = .returned (val ρ' η v) ∧ Ext ρ ρ' H.nx ∧ H.nx ≤ H'.nx ∧ Sim η base W ρ' H' w1 ∧ Wf ρ' H'.nx v := by
    intro L1 H1 ρ1 a1 w1 ho hs
    obtain ⟨rfl, g1, g2⟩ := outC_ok hη hs.sim hs.loc ho
    exact ⟨hs.loc.defers, _, g1, ρ1, rfl, hs.ext, hs.le, hs.sim, g2⟩
  cases ho : R (argsIn args L0) H with
  | fail => rw [ho] at h2; cases h2
  | exit i L1 H1 => rw [ho] at h2; cases h2
  | norm L1 H1 =>
    rw [ho] at h2
    refine wp_mono (hR _ _ _ _ _ _ _ ho (by simp) hSt) fun e a w he => ?_
    cases e with
    | normal =>
      obtain ⟨L2, H2, ρ2, k1, k2⟩ := he
      injection k1 with k1 k3
      subst k1
      subst k3
      obtain ⟨d1, u, d2, d3⟩ := fin h2 k2
      exact ⟨d1, u, d2, d3⟩
    | exit id => obtain ⟨_, _, _, h1, _⟩ := he; cases h1
    | ret => obtain ⟨_, _, _, h1, _⟩ := he; cases h1
    | goto l => exact he.elim
    | panic ch => exact he.elim
    | outgrown => exact he.elim
  | ret L1 H1 =>
    rw [ho] at h2
    refine wp_mono (hR _ _ _ _ _ _ _ ho (by simp) hSt) fun e a w he => ?_
    cases e with
    | ret =>
      obtain ⟨L2, H2, ρ2, k1, k2⟩ := he
      injection k1 with k1 k3
      subst k1
      subst k3
      obtain ⟨d1, u, d2, d3⟩ := fin h2 k2
      exact ⟨d1, u, d2, d3⟩
    | exit id => obtain ⟨_, _, _, h1, _⟩ := he; cases h1
    | normal => obtain ⟨_, _, _, h1, _⟩ := he; cases h1
    | goto l => exact he.elim
    | panic ch => exact he.elim
    | outgrown => exact he.elim
theorem body_ok {fn : Func} {c : Code} {f : Nat} {cb : CB} {args : List AV} {v : AV} (hm : P.follows .mixedOrders = true) (hη : Leaves η) (hcb : CBok P η base W cb) (hf : P.funcs[f]? = some fn) (hb : fn.body = some c)
    (h : (bodyC P fn c).run cb args H = .some v H') (hS : Sim η base W ρ H w) (hw : ∀ x ∈ args, Wf ρ H.nx x) : Calls P f (args.map (val ρ η)).toArray w fun e w' =>
      ∃ ρ', e = .returned (val ρ' η v) ∧ Ext ρ ρ' H.nx ∧ H.nx ≤ H'.nx ∧ Sim η base W ρ' H' w' ∧ Wf ρ' H'.nx v := by
  unfold bodyC at h
  split at h
  · rename_i ht
    exact fn_ok (R := fun L H => (codeC P fn.ntmps c).run cb L H) ht hη hf hb (fun L H out ρ n0 a w h hn hS => code_ok hm ht hη hcb c L H out ρ a w h hn hS) h hS hw
  · cases h
/-- THE EVALUATOR TELLS WHAT A CALL DOES. -/
theorem evFn_ok {sp : Nat → Option FnC} (hm : P.follows .mixedOrders = true) (hη : Leaves η) (hsp : SpOk P η base W sp) : ∀ n, CBok P η base W (evFn P sp n)
  | 0 => fun f args H v H' h => by cases h
  | n + 1 => by
    have ih := evFn_ok hm hη hsp n
    intro f args H v H' h
    have h : (fnC P sp f).run (evFn P sp n) args H = .some v H' := h
    unfold fnC at h
    split at h
    · cases h
    · rename_i fn hf
      split at h
      · rename_i c hb hname
        refine ⟨⟨fn, hf, by rw [hb]; rfl, hname⟩, fun ρ w hS hw => ?_⟩
        split at h
        · rename_i s hs
          exact hsp f s hs _ ih _ _ _ _ h ρ w hS hw
        · exact body_ok hm hη ih hf hb h hS hw
      · cases h
end
end Go.Proofs.YtomicolllbhdaaaGreat.Ev
namespace Go.Proofs.YtomicolllbhdaaaGreat.Ev
open Go.RowKit (Below)
set_option linter.unusedVariables false
/-! Cells of a row that a map's entries are laid into, in whatever order. -/
theorem Tr.putN_comm {α : Type} (u v : α) : ∀ (d i j : Nat) (t : Tr α), i < 2 ^ d → j < 2 ^ d → i ≠ j → (t.putN u d j).putN v d i = (t.putN v d i).putN u d j
  | 0, i, j, t, hi, hj, hne => by simp at hi hj; omega
  | d + 1, i, j, t, hi, hj, hne => by
    rw [Tr.putN_succ, Tr.putN_succ, Tr.putN_succ, Tr.putN_succ]
    have hi' : i / 2 < 2 ^ d := by rw [Nat.pow_succ] at hi; omega
    have hj' : j / 2 < 2 ^ d := by rw [Nat.pow_succ] at hj; omega
    by_cases h1 : i % 2 = 1 <;> by_cases h2 : j % 2 = 1 <;> simp only [h1, h2, if_true, if_false, Tr.le_node, Tr.ri_node]
    · rw [Tr.putN_comm u v d _ _ _ hi' hj' (by omega)]
    · rw [Tr.putN_comm u v d _ _ _ hi' hj' (by omega)]
theorem Tr.putN_putN {α : Type} (u v : α) : ∀ (d i : Nat) (t : Tr α), (t.putN u d i).putN v d i = t.putN v d i
  | 0, i, t => rfl
  | d + 1, i, t => by
    rw [Tr.putN_succ, Tr.putN_succ, Tr.putN_succ]
    by_cases h1 : i % 2 = 1 <;> simp only [h1, if_true, if_false, Tr.le_node, Tr.ri_node, Tr.putN_putN u v d]
noncomputable def sync1 (so ls : Nat) (p : AV × AV) (o : Ob) : Option Ob := Option.rec none (fun k => Bool.rec none (o.set (Nat.add so k) p.2) (and' (Nat.ble (Nat.succ k) ls) p.2.leaf)) p.1.vx
noncomputable def syncO (so ls : Nat) (l : List (AV × AV)) (o : Ob) : Option Ob := List.rec (fun o => some o) (fun p _ ih o => Option.rec none (fun o' => ih o') (sync1 so ls p o)) l o
theorem sync1_some {so ls : Nat} {p : AV × AV} {o o' : Ob} (h : sync1 so ls p o = some o') : ∃ k, p.1.vx = some k ∧ k < ls ∧ p.2.leaf = true ∧ o.set (so + k) p.2 = some o' := by
  obtain ⟨k, h1, h2⟩ := oget_some h
  obtain ⟨h3, h4⟩ := brec_some h2 (by simp)
  rw [and'_eq, Bool.and_eq_true] at h3
  exact ⟨k, h1, Nat.le_of_ble_eq_true h3.1, h3.2, h4⟩
theorem sync1_of {so ls : Nat} {p : AV × AV} {o o' : Ob} {k : Nat} (h1 : p.1.vx = some k) (h2 : k < ls) (h3 : p.2.leaf = true) (h4 : o.set (so + k) p.2 = some o') : sync1 so ls p o = some o' := by
  unfold sync1
  rw [h1]
  show (Bool.rec none (o.set (so + k) p.2) (and' (Nat.ble (Nat.succ k) ls) p.2.leaf) : Option Ob) = some o'
  rw [show Nat.ble (Nat.succ k) ls = true from Nat.ble_eq_true_of_le h2, h3]
  exact h4
theorem Ob.set_of {el es n d off : Nat} {t : Tr AV} {x v : AV} (h : off < n) (hg : t.getN d off = some x) : (Ob.row el es n d t).set off v = some (.row el es n d (t.putN v d off)) := by
  show (Bool.rec none (Option.rec none (fun _ => some (Ob.row el es n d (t.putN v d off))) (t.getN d off) : Option Ob) (Nat.ble (Nat.succ off) n) : Option Ob) = _
  rw [show Nat.ble (Nat.succ off) n = true from Nat.ble_eq_true_of_le h, hg]
def RowN (o : Ob) : Prop := ∀ el es n d t, o = .row el es n d t → n ≤ 2 ^ d
theorem RowN.set {o o' : Ob} {off : Nat} {v : AV} (hr : RowN o) (h : o.set off v = some o') : RowN o' := by
  obtain ⟨el, es, n, d, t, x, rfl, h1, h2, rfl⟩ := Ob.set_some h
  intro el' es' n' d' t' e
  injection e with _ _ e1 e2 e3
  subst e1
  subst e2
  exact hr _ _ _ _ _ rfl
def KNe (p q : AV × AV) : Prop := ∀ a b, p.1.vx = some a → q.1.vx = some b → a ≠ b
theorem sync_swap {so ls : Nat} {p q : AV × AV} {o o1 o2 : Ob} (hr : RowN o) (hk : KNe p q) (h1 : sync1 so ls p o = some o1) (h2 : sync1 so ls q o1 = some o2) : ∃ o1', sync1 so ls q o = some o1' ∧ sync1 so ls p o1' = some o2 := by
  obtain ⟨a, a1, a2, a3, a4⟩ := sync1_some h1
  obtain ⟨b, b1, b2, b3, b4⟩ := sync1_some h2
  obtain ⟨el, es, n, d, t, x, rfl, c1, c2, rfl⟩ := Ob.set_some a4
  obtain ⟨_, _, _, _, _, y, e, d1, d2, rfl⟩ := Ob.set_some b4
  injection e with e1 e2 e3 e4 e5
  subst e1 e2 e3 e4 e5
  have hn := hr _ _ _ _ _ rfl
  have hab := hk a b a1 b1
  rw [Tr.getN_putN_ne _ _ _ _ _ (by omega) (by omega) (by omega)] at d2
  refine ⟨_, sync1_of b1 b2 b3 (Ob.set_of d1 d2), sync1_of a1 a2 a3 ?_⟩
  rw [Ob.set_of (x := x) c1 (by rw [Tr.getN_putN_ne _ _ _ _ _ (by omega) (by omega) (by omega)]; exact c2)]
  rw [Tr.putN_comm _ _ _ _ _ _ (by omega) (by omega) (by omega)]
theorem syncO_cons {so ls : Nat} {p : AV × AV} {l : List (AV × AV)} {o o' : Ob} : syncO so ls (p :: l) o = some o' ↔ ∃ o1, sync1 so ls p o = some o1 ∧ syncO so ls l o1 = some o' := by
  constructor
  · intro h
    exact oget_some (x := sync1 so ls p o) (f := fun o' => syncO so ls l o') h
  · rintro ⟨o1, h1, h2⟩
    show (Option.rec none (fun o' => syncO so ls l o') (sync1 so ls p o) : Option Ob) = some o'
    rw [h1]
    exact h2
theorem syncO_append {so ls : Nat} {m : List (AV × AV)} : ∀ {l : List (AV × AV)} {o o' : Ob}, syncO so ls (l ++ m) o = some o' → ∃ o1, syncO so ls l o = some o1 ∧ syncO so ls m o1 = some o'
  | [], o, o', h => ⟨o, rfl, h⟩
  | p :: l, o, o', h => by
    obtain ⟨o1, h1, h2⟩ := syncO_cons.1 h
    obtain ⟨o2, h3, h4⟩ := syncO_append h2
    exact ⟨o2, syncO_cons.2 ⟨o1, h1, h3⟩, h4⟩
theorem syncO_perm {so ls : Nat} {l m : List (AV × AV)} (hp : l.Perm m) : ∀ {o o' : Ob}, l.Pairwise KNe → RowN o → syncO so ls l o = some o' → syncO so ls m o = some o' := by
  induction hp with
  | nil => intro o o' _ _ h; exact h
  | cons p hp ih =>
    intro o o' hk hr h
    obtain ⟨o1, h1, h2⟩ := syncO_cons.1 h
    obtain ⟨k, _, _, _, h3⟩ := sync1_some h1
    exact syncO_cons.2 ⟨o1, h1, ih (List.pairwise_cons.1 hk).2 (hr.set h3) h2⟩
  | swap p q l =>
    intro o o' hk hr h
    obtain ⟨o1, h1, h2⟩ := syncO_cons.1 h
    obtain ⟨o2, h3, h4⟩ := syncO_cons.1 h2
    obtain ⟨o1', h5, h6⟩ := sync_swap hr ((List.pairwise_cons.1 hk).1 p (by simp)) h1 h3
    exact syncO_cons.2 ⟨o1', h5, syncO_cons.2 ⟨o2, h6, h4⟩⟩
  | trans h1 h2 ih1 ih2 =>
    intro o o' hk hr h
    exact ih2 ((h1.pairwise_iff (fun {x y} hxy a b ha hb => (hxy b a hb ha).symm)).1 hk) hr (ih1 hk hr h)
/-- A key that is none of others. -/
noncomputable def kne1 (p : AV × AV) (m : List (AV × AV)) : Bool := List.rec true (fun q _ jh => Bool.rec false jh (Option.rec false (fun a => Option.rec false (fun b => not' (Nat.beq a b)) q.1.vx) p.1.vx)) m
/-- No two keys are one. -/
noncomputable def keysNe (l : List (AV × AV)) : Bool := List.rec true (fun p m ih => Bool.rec false ih (kne1 p m)) l
theorem kne1_ok {p : AV × AV} : ∀ {m : List (AV × AV)}, kne1 p m = true → ∀ q ∈ m, KNe p q
  | [], h, q, hq => by cases hq
  | r :: m, h, q, hq => by
    have h : (Bool.rec false (kne1 p m) (Option.rec false (fun a => Option.rec false (fun b => not' (Nat.beq a b)) r.1.vx) p.1.vx) : Bool) = true := h
    obtain ⟨h3, h4⟩ := brec_false h
    rcases List.mem_cons.1 hq with rfl | hq
    · intro a b ha hb
      rw [ha, hb] at h3
      have h3 : not' (Nat.beq a b) = true := h3
      rintro rfl
      rw [Nat.beq_refl] at h3
      cases h3
    · exact kne1_ok h4 q hq
theorem keysNe_ok : ∀ {l : List (AV × AV)}, keysNe l = true → l.Pairwise KNe
  | [], h => .nil
  | p :: m, h => by
    have h : (Bool.rec false (keysNe m) (kne1 p m) : Bool) = true := h
    obtain ⟨h1, h2⟩ := brec_false h
    exact List.pairwise_cons.2 ⟨kne1_ok h1, keysNe_ok h2⟩
end Go.Proofs.YtomicolllbhdaaaGreat.Ev
namespace Go.Proofs.YtomicolllbhdaaaGreat.Ev
open Go.RowKit (Below)
open Go.ChangeMaps (setBlock)
set_option linter.unusedVariables false
section
variable {P : Program} {η : Nat → Value} {base : Nat} {W w w' : World} {ρ ρ' ρ0 ρ1 : Ren} {H H' : Heap} {L : Loc} {a : Act} {nx nx' n0 n1 nt : Nat}
theorem put_get (a : Act) (d : Nat) (v : Value) (h : d < a.tmps.size) : (a.put (some d) v).tmps.getD d undef = v := by
  simp [Act.put, h]
theorem put_ne (a : Act) (d t : Nat) (v : Value) (h : d ≠ t) : (a.put (some d) v).tmps[t]? = a.tmps[t]? := by
  simp [Act.put, Array.getElem?_setIfInBounds_ne h]
theorem run_extract0 (w : World) (v : Value) (l : List Value) : (Instr.extract (.tuple (v :: l).toArray) 0).run P w = .ok v w := by
  simp [Instr.extract]
theorem setBlock_get {w : World} {r k : Nat} {o o' : Obj} (h : w.heap[r]? = some o') : (setBlock w r o).heap[k]? = if k = r then some o else w.heap[k]? := by
  have hlt : r < w.heap.size := (Array.getElem?_eq_some_iff.1 h).1
  simp only [setBlock, Array.getElem?_setIfInBounds]
  by_cases hk : r = k
  · subst hk; simp [hlt]
  · rw [if_neg hk, if_neg (fun e => hk e.symm)]
/-- A loop over a map. -/
theorem range_wp {α : Type} {es : Array MapEntry} {clock mb r it x c b0 i8 : Nat} {oN oE : Oper} {body : Code} {Q : Exit → Act → World → Prop} (Z0 : List α) (ent : α → MapEntry) (hZ : Z0.map ent = es.toList) (hb : Born es clock) (hrm : r ≠ mb)
    (hN : oN.op = .next (.tmp it) false) (hNd : oN.dst = some x) (hNg : oN.guard = none) (hE : oE.op = .extract (.tmp x) 0) (hEd : oE.dst = some c) (hEg : oE.guard = none)
    (J : List α → Act → World → Prop)
    (hJ : ∀ V a w, J V a w → a.tmps.getD it undef = .pointer (some ⟨r, 0, none⟩) ∧ w.heap[r]? = some (.mapIter (some mb) clock (V.map fun z => (ent z).born).toArray clock) ∧ w.heap[mb]? = some (.map es clock) ∧ x < a.tmps.size ∧ c < a.tmps.size)
    (hend : ∀ V a w, V.Perm Z0 → J V a w → Q (.exit b0) ((a.put (some x) (.tuple #[.bool false])).put (some c) (.bool false)) w)
    (hstep : ∀ V z R a w w1, (V ++ z :: R).Perm Z0 → J V a w → (w1 = w ∨ w1 = w.drew) →
      body.wp P (fun e a' w' => e = .normal ∧ J (V ++ [z]) a' w') ((a.put (some x) (.tuple #[.bool true, (ent z).key, (ent z).val])).put (some c) (.bool true)) (setBlock w1 r (.mapIter (some mb) clock ((V.map fun z => (ent z).born).toArray.push (ent z).born) clock)))
    (a : Act) (w : World) (h0 : J [] a w) : (Code.loop (.seq (.region i8 #[oN, oE] false) (.seq (.cond (.tmp c) .skip (.exit b0)) body))).wp P Q a w := by
  refine wp_loop (fun a w => ∃ V R, (V ++ R).Perm Z0 ∧ J V a w) (fun a w => (leftOf es (w.iterSeen r)).size) ⟨[], Z0, .refl _, h0⟩ ?_
  rintro a w ⟨V, R, hp, hj⟩
  obtain ⟨g1, g2, g3, g4, g5⟩ := hJ V a w hj
  have hseen : w.iterSeen r = (V.map fun z => (ent z).born).toArray := by unfold World.iterSeen; rw [g2]
  have hold : ∀ e ∈ es.toList, e.born < clock := fun e he => hb.1 _ (List.mem_map.2 ⟨e, he, rfl⟩)
  apply wp_seq
  apply wp_region
  show wpOps P #[oN, oE] _ [0, 1] a w
  have hmemZ : ∀ e, e ∈ es.toList → ∃ z, z ∈ V ++ R ∧ ent z = e := fun e he => by
    rw [← hZ] at he
    obtain ⟨z, hz, rfl⟩ := List.mem_map.1 he
    exact ⟨z, hp.mem_iff.2 hz, rfl⟩
  have next : ∀ (v : Value) (l : List Value) (w2 : World) (K : Act → World → Prop), (Instr.next (.pointer (some ⟨r, 0, none⟩)) false oN.type).run P w = .ok (.tuple (v :: l).toArray) w2 →
      K ((a.put (some x) (.tuple (v :: l).toArray)).put (some c) v) w2 → ∀ Q', (∀ a w, K a w → Q' .normal a w) → wpOps P #[oN, oE] Q' [0, 1] a w := by
    intro v l w2 K hr hK Q' hQ
    have h0 : (#[oN, oE] : Array Oper)[0]? = some oN := rfl
    have h1 : (#[oN, oE] : Array Oper)[1]? = some oE := rfl
    unfold wpOps
    simp only [h0]
    rw [if_pos (by simp [Region.wanted, hNg])]
    left
    unfold Oper.wp
    have e1 : (execOp a.eval oN).run P w = .ok (.value (.tuple (v :: l).toArray)) w2 := by
      simp only [execOp, hN]
      have : a.eval (.tmp it) = .pointer (some ⟨r, 0, none⟩) := g1
      apply run_vw
      rw [this]
      exact hr
    rw [e1, Oper.upon_value, hNd]
    unfold wpOps
    simp only [h1]
    rw [if_pos (by simp [Region.wanted, hEg])]
    left
    unfold Oper.wp
    have e2 : (execOp (a.put (some x) (.tuple (v :: l).toArray)).eval oE).run P w2 = .ok (.value v) w2 := by
      simp only [execOp, hE]
      have : (a.put (some x) (.tuple (v :: l).toArray)).eval (.tmp x) = .tuple (v :: l).toArray := put_get a x _ g4
      apply run_vw
      rw [this]
      exact run_extract0 _ _ _
    rw [e2, Oper.upon_value, hEd]
    exact hQ _ _ hK
  have hcs : ∀ (v u : Value), ((a.put (some x) v).put (some c) u).eval (.tmp c) = u := fun v u => put_get _ _ _ (by rw [put_size]; exact g5)
  rcases run_next_at (P := P) w oN.type r mb clock clock (V.map fun z => (ent z).born).toArray es clock g2 g3 hold (Nat.le_refl _) with ⟨h1, h2⟩ | ⟨e, he, w1, hw, h2⟩
  · refine next (.bool false) [] w (fun a' w' => a' = (a.put (some x) (.tuple #[.bool false])).put (some c) (.bool false) ∧ w' = w) h2 ⟨rfl, rfl⟩ _ ?_
    rintro a' w' ⟨rfl, rfl⟩
    show (Code.seq _ _).wp P _ _ _
    apply wp_seq
    refine wp_cond_false (hcs _ _) (wp_exit ?_)
    refine hend V a w' ?_ hj
    have : R = [] := by
      cases R with
      | nil => rfl
      | cons z R =>
        exfalso
        have hz : z ∈ Z0 := hp.mem_iff.1 (by simp)
        have hez : ent z ∈ es.toList := by rw [← hZ]; exact List.mem_map.2 ⟨z, hz, rfl⟩
        have hs := all_seen es _ h1 (ent z) hez
        have hnd : ((V ++ z :: R).map fun z => (ent z).born).Nodup := by
          refine ((hp.map fun z => (ent z).born).nodup_iff).2 ?_
          have := hb.2
          rw [← hZ, List.map_map] at this
          exact this
        rw [List.map_append, List.nodup_append] at hnd
        have hin : (ent z).born ∈ V.map fun z => (ent z).born := by simpa using hs
        exact hnd.2.2 _ hin _ (by simp) rfl
    subst this
    simpa using hp
  · obtain ⟨k1, k2⟩ := mem_left he
    obtain ⟨z, hz, rfl⟩ := hmemZ e k1
    have hzR : z ∈ R := by
      rcases List.mem_append.1 hz with hz | hz
      · exfalso
        have : (V.map fun z => (ent z).born).toArray.contains (ent z).born = true := by
          simp
          exact ⟨z, hz, rfl⟩
        rw [this] at k2
        cases k2
      · exact hz
    obtain ⟨R1, R2, rfl⟩ := List.append_of_mem hzR
    have hp2 : (V ++ z :: (R1 ++ R2)).Perm Z0 := (List.Perm.append_left V List.perm_middle.symm).trans hp
    have hr1 : w1.heap[r]? = some (.mapIter (some mb) clock (V.map fun z => (ent z).born).toArray clock) := by rcases hw with rfl | rfl <;> exact g2
    refine next (.bool true) [(ent z).key, (ent z).val] _ (fun a' w' => a' = (a.put (some x) (.tuple #[.bool true, (ent z).key, (ent z).val])).put (some c) (.bool true) ∧ w' = setBlock w1 r (.mapIter (some mb) clock ((V.map fun z => (ent z).born).toArray.push (ent z).born) clock)) h2 ⟨rfl, rfl⟩ _ ?_
    rintro a' w' ⟨rfl, rfl⟩
    show (Code.seq _ _).wp P _ _ _
    apply wp_seq
    refine wp_cond_true (hcs _ _) (wp_skip ?_)
    show body.wp P _ _ _
    refine wp_mono (hstep V z (R1 ++ R2) a w w1 hp2 hj hw) ?_
    rintro e a' w' ⟨rfl, hj'⟩
    refine ⟨⟨V ++ [z], R1 ++ R2, by simpa using hp2, hj'⟩, ?_⟩
    obtain ⟨_, q2, _⟩ := hJ _ _ _ hj'
    have hs' : w'.iterSeen r = ((V.map fun z => (ent z).born).toArray.push (ent z).born) := by
      unfold World.iterSeen
      rw [q2]
      simp
    show (leftOf es (w'.iterSeen r)).size < (leftOf es (w.iterSeen r)).size
    rw [hs', hseen]
    exact left_shrinks es _ _ he
end
end Go.Proofs.YtomicolllbhdaaaGreat.Ev
namespace Go.Proofs.YtomicolllbhdaaaGreat.Ev
open Go.RowKit (Below)
open Go.ChangeMaps (setBlock)
set_option linter.unusedVariables false
section
variable {P : Program} {η : Nat → Value} {base : Nat} {W w w' : World} {ρ ρ' ρ0 ρ1 : Ren} {H H' : Heap} {L : Loc} {a : Act} {nx nx' n0 n1 nt : Nat}
/-- Operations that turn no memory. -/
noncomputable def look1 (P : Program) (nt : Nat) (o : Oper) (L : Loc) (H : Heap) : Option Loc :=
  match o.guard, dstOk nt o.dst with
  | none, true => match opC P o.op with
    | .tot f => some ((putC o.dst).put (f L) L)
    | .pur f => Option.rec none (fun v => some ((putC o.dst).put v L)) (f L)
    | .look f => Option.rec none (fun v => some ((putC o.dst).put v L)) (f L H)
    | _ => none
  | _, _ => none
noncomputable def looksC (P : Program) (nt : Nat) (H : Heap) (l : List Oper) (L : Loc) : Option Loc := List.rec (fun L => some L) (fun o _ ih L => Option.rec none (fun L' => ih L') (look1 P nt o L H)) l L
theorem look1_wp {o : Oper} {L1 : Loc} (h : look1 P nt o L H = some L1) (ht : nt ≤ 256) (hη : Leaves η) (hS : Sim η base W ρ H w) (hL : LocOk η ρ H.nx L a) (hs : a.tmps.size = nt) :
    o.guard = none ∧ ∃ v, LocOk η ρ H.nx L1 (a.put o.dst v) ∧ ∀ K Q, K (a.put o.dst v) w → o.wp P a w K Q := by
  unfold look1 at h
  split at h
  · rename_i hg hd
    have hd := dstOk_some hd ht hs
    refine ⟨hg, ?_⟩
    split at h
    · rename_i f hf
      injection h with h
      subst h
      obtain ⟨u, r1, r5⟩ := tot_sound hf η ρ H.nx L a hL
      exact ⟨u, hL.put r5 hd, fun K Q hK => by unfold Oper.wp; rw [r1, Oper.upon_value]; exact hK⟩
    · rename_i f hf
      obtain ⟨v, h1, h2⟩ := oget_some h
      injection h2 with h2
      subst h2
      obtain ⟨u, r1, r5⟩ := pur_sound hf η ρ H.nx L a v hη hL h1
      exact ⟨u, hL.put r5 hd, fun K Q hK => by unfold Oper.wp; rw [r1, Oper.upon_value]; exact hK⟩
    · rename_i f hf
      obtain ⟨v, h1, h2⟩ := oget_some h
      injection h2 with h2
      subst h2
      obtain ⟨r1, r5⟩ := look_sound hf η base W ρ H w L a v hη hS hL h1
      exact ⟨_, hL.put (Tells.val r5) hd, fun K Q hK => by unfold Oper.wp; rw [r1, Oper.upon_value]; exact hK⟩
    · cases h
  · cases h
/-- Steps that turn no memory: the world stands, and so do the slots that none of them has. -/
theorem looks_wp {ops : Array Oper} {Q : Exit → Act → World → Prop} {rest : List Nat} (ht : nt ≤ 256) (hη : Leaves η) (hS : Sim η base W ρ H w) :
    ∀ (l : List Oper) (k : Nat) (L L1 : Loc) (a : Act), (∀ (j : Nat) o, l[j]? = some o → ops[k + j]? = some o) → looksC P nt H l L = some L1 → LocOk η ρ H.nx L a → a.tmps.size = nt →
      (∀ a', LocOk η ρ H.nx L1 a' → a'.tmps.size = nt → (∀ t, (∀ o ∈ l, o.dst ≠ some t) → a'.tmps[t]? = a.tmps[t]?) → wpOps P ops Q rest a' w) → wpOps P ops Q (List.range' k l.length ++ rest) a w
  | [], k, L, L1, a, hl, h, hL, hs, hK => by
    have : L = L1 := by injection h
    subst this
    exact hK a hL hs fun _ _ => rfl
  | o :: l, k, L, L1, a, hl, h, hL, hs, hK => by
    have h : (Option.rec none (fun L' => looksC P nt H l L') (look1 P nt o L H) : Option Loc) = some L1 := h
    obtain ⟨L2, h1, h2⟩ := oget_some h
    obtain ⟨hg, v, hL2, hw⟩ := look1_wp h1 ht hη hS hL hs
    have ho : ops[k]? = some o := by simpa using hl 0 o rfl
    rw [List.length_cons, List.range'_succ, List.cons_append]
    unfold wpOps
    simp only [ho]
    rw [if_pos (by simp [Region.wanted, hg])]
    left
    refine hw _ _ ?_
    refine looks_wp ht hη hS l (k + 1) L2 L1 _ (fun j o' hj => by rw [show k + 1 + j = k + (j + 1) by omega]; exact hl (j + 1) o' (by simpa using hj)) h2 hL2 (by rw [put_size]; exact hs) ?_
    intro a' g1 g2 g3
    refine hK a' g1 g2 fun t ht' => ?_
    rw [g3 t fun o' ho' => ht' o' (List.mem_cons_of_mem _ ho')]
    cases hd : o.dst with
    | none => rfl
    | some d => exact put_ne _ _ _ _ fun e => ht' o List.mem_cons_self (by rw [hd, e])
/-- Slots that are told, and that stand, are told again. -/
theorem LocOk.frame {a' : Act} (h : LocOk η ρ nx L a) (hd : a'.defers = []) (hf : ∀ t, t < 256 → L.get t ≠ .any → a'.tmps[t]? = a.tmps[t]?) : LocOk η ρ nx L a' := by
  refine ⟨fun t ht => ?_, hd⟩
  rcases h.get t ht with h1 | ⟨h1, h2⟩
  · exact .inl h1
  · by_cases ha : L.get t = .any
    · exact .inl ha
    · refine .inr ⟨h1, ?_⟩
      rw [← h2, Array.getD_eq_getD_getElem?, Array.getD_eq_getD_getElem?, hf t ht ha]
/-- Fewer slots told. -/
theorem LocOk.less {L' : Loc} (h : LocOk η ρ nx L a) (hl : ∀ t, t < 256 → L'.get t = .any ∨ L'.get t = L.get t) : LocOk η ρ nx L' a := by
  refine ⟨fun t ht => ?_, h.defers⟩
  rcases hl t ht with h1 | h1
  · exact .inl h1
  · rw [h1]; exact h.get t ht
/-- A new block behind all. -/
theorem Sim.grow (h : Sim η base W ρ H w) {o : Obj} (hh : w'.heap = w.heap.push o) (h1 : w'.os = w.os) (h2 : w'.tape = w.tape) (h3 : w'.output = w.output) : Sim η base W ρ H w' := by
  have hk : ∀ k, k < w.heap.size → w'.heap[k]? = w.heap[k]? := fun k hk => by rw [hh, Array.getElem?_push, if_neg (by omega)]
  refine ⟨h.lt, fun j oj hj hoj => ?_, h.inj, h.below.trans ⟨h1, h2, h3, by rw [hh]; simp, fun k hkb => hk k (by have := h.hb; omega)⟩, by rw [hh]; have := h.hb; simp; omega⟩
  obtain ⟨g1, g2⟩ := h.ob j oj hj hoj
  exact ⟨g1, g2.ext (Ext.refl _ _) (Nat.le_refl _) hj (hk _ g2.lt)⟩
end
end Go.Proofs.YtomicolllbhdaaaGreat.Ev
namespace Go.Proofs.YtomicolllbhdaaaGreat.Ev
open Go.RowKit (Below)
open Go.ChangeMaps (setBlock)
set_option linter.unusedVariables false
section
variable {P : Program} {η : Nat → Value} {base : Nat} {W w w' : World} {ρ ρ' ρ0 ρ1 : Ren} {H H' : Heap} {L : Loc} {a : Act} {nx nx' n0 n1 nt : Nat}
theorem zip_ok : ∀ {es : List MapEntry} {l : List (AV × AV)}, es.map (fun e => (e.key, e.val)) = l.map (fun p => (val ρ η p.1, val ρ η p.2)) → (es.zip l).map Prod.fst = es ∧ (es.zip l).map Prod.snd = l ∧ ∀ z ∈ es.zip l, z.1.key = val ρ η z.2.1 ∧ z.1.val = val ρ η z.2.2
  | [], [], h => ⟨rfl, rfl, fun z hz => by cases hz⟩
  | [], _ :: _, h => by cases h
  | _ :: _, [], h => by cases h
  | e :: es, p :: l, h => by
    simp only [List.map_cons, List.cons.injEq, Prod.mk.injEq] at h
    obtain ⟨⟨h1, h2⟩, h3⟩ := h
    obtain ⟨g1, g2, g3⟩ := zip_ok h3
    refine ⟨by simp [g1], by simp [g2], fun z hz => ?_⟩
    rcases List.mem_cons.1 hz with rfl | hz
    · exact ⟨h1, h2⟩
    · exact g3 z hz
/-- A cell that is written: one block is turned. -/
theorem store1 {o : Oper} {ty : TypeId} {xa xv : Operand} {si off : Nat} {ob ob' : Ob} {v : AV} (hη : Leaves η) (ho : o.op = .store ty xa xv) (hz : szOf P ty = some 1) (hS : Sim η base W ρ H w) (hsi : si < H.nx) (hob : H.ob si = some ob)
    (hs : ob.set off v = some ob') (hv : Wf ρ H.nx v) (hl : v.leaf = true) (h1 : a.eval xa = .pointer (some ⟨ρ.b si, ρ.d si + off, none⟩)) (h2 : a.eval xv = val ρ η v) :
    ∃ w2 : World, (execOp a.eval o).run P w = .ok .skip w2 ∧ Sim η base W ρ (H.put si ob') w2 ∧ ∀ k, k ≠ ρ.b si → w2.heap[k]? = w.heap[k]? := by
  obtain ⟨b1, b2, b3⟩ := hS.set1 hsi hob hs hv hl
  obtain ⟨c1, c2⟩ := leaf_one hη hv hl
  have hrun := run_storeCells_cells (P := P) (ρ.b si) (ρ.d si + off) [val ρ η v] 0 w (fun j hj => by
      have : j = 0 := by simpa using hj
      subst this; simpa using b1) (fun j hj => by
      have : j = 0 := by simpa using hj
      subst this; simpa using b2) (fun u hu => by
      have : u = val ρ η v := by simpa using hu
      subst this; exact c1)
  refine ⟨_, ?_, b3, fun k hk => by simp only [World.setCell, Array.getElem?_modify]; rw [if_neg (fun e => hk e.symm)]⟩
  simp only [execOp, ho]
  apply run_u
  rw [h1, h2]
  simp only [Nat.add_zero] at hrun
  simp [Instr.storeAt, Instr.sureAddr, storeVar, run_szOf hz, c2, hrun, World.setCells]
/-- A loop that lays a map's entries into a row. -/
theorem sync_loop {es : Array MapEntry} {clock r it x c y b0 b1 i8 i9 i10 m si id off so ls : Nat} {oN oE oY oS : Oper} {l9 l10 : List Oper} {ops9 ops10 : Array Oper} {ty : TypeId} {xa xv : Operand} {Lc : Loc} {l : List (AV × AV)} {o oF : Ob}
    (ht : nt ≤ 256) (hη : Leaves η)
    (hN : oN.op = .next (.tmp it) false) (hNd : oN.dst = some x) (hNg : oN.guard = none) (hE : oE.op = .extract (.tmp x) 0) (hEd : oE.dst = some c) (hEg : oE.guard = none)
    (hY : oY.op = .entry (.tmp it)) (hYd : oY.dst = some y) (hYg : oY.guard = none) (hS : oS.op = .store ty xa xv) (hSd : oS.dst = none) (hSg : oS.guard = none) (hzy : szOf P ty = some 1)
    (h9 : ops9 = (oY :: l9).toArray) (h10 : ops10 = (l10 ++ [oS]).toArray) (hx : x < nt) (hc : c < nt) (hy : y < nt)
    (hfree : ∀ t, (t = it ∨ (t < 256 ∧ Lc.get t ≠ .any)) → t ≠ x ∧ t ≠ c ∧ t ≠ y ∧ ∀ o ∈ l9 ++ l10, o.dst ≠ some t)
    (hm : m < H.nx) (hml : H.mp m = some l) (hsi : si < H.nx) (hso : H.ob si = some o) (hne : m ≠ si) (hid : id < H.nx) (hide : id ≠ si) (hkn : l.Pairwise KNe) (hsync : syncO so ls l o = some oF)
    (hbody : ∀ (H' : Heap) (p : AV × AV) (k : Nat), H'.cell id off = H.cell id off → p.1.vx = some k → k < ls → ∃ L9 L10, looksC P nt H' l9 ((putC (some y)).put (.tup [p.1, p.2]) Lc) = some L9 ∧ looksC P nt H' l10 L9 = some L10 ∧ (gOf xa).g L10 = .ptr si (so + k) ∧ (gOf xv).g L10 = p.2)
    (hsim : Sim η base W ρ H w) (hr1 : base ≤ r) (hr2 : ∀ i oi, i < H.nx → H.ob i = some oi → ρ.b i ≠ r) (hr3 : w.heap[r]? = some (.mapIter (some (ρ.b m)) clock #[] clock)) (hme : w.heap[ρ.b m]? = some (.map es clock)) (hpe : es.toList.map (fun e => (e.key, e.val)) = pairs ρ η l) (hbn : Born es clock)
    (hL : LocOk η ρ H.nx Lc a) (hs : a.tmps.size = nt) (hit : a.tmps.getD it undef = .pointer (some ⟨r, 0, none⟩)) :
    (Code.loop (.seq (.region i8 #[oN, oE] false) (.seq (.cond (.tmp c) .skip (.exit b0)) (.block b1 (.seq (.region i9 ops9 false) (.region i10 ops10 false)))))).wp P
      (fun e a w => e = .exit b0 ∧ Sim η base W ρ (H.put si oF) w ∧ LocOk η ρ H.nx Lc a ∧ a.tmps.size = nt) a w := by
  have hlt := hsim.lt
  obtain ⟨om, hom, hom2⟩ := oget_some hml
  have hrm : r ≠ ρ.b m := fun e => hr2 m om hm hom e.symm
  have hrsi : r ≠ ρ.b si := fun e => hr2 si o hsi hso e.symm
  have hms : ρ.b m ≠ ρ.b si := fun e => hne (hsim.inj m si _ _ hm hsi hom hso e)
  obtain ⟨hwf, _⟩ := hsim.mp hm hml
  obtain ⟨z1, z2, z3⟩ := zip_ok hpe
  have hrow : RowN o := by
    obtain ⟨_, hk⟩ := hsim.ob si o hsi hso
    cases o with
    | mp l => intro _ _ _ _ _ e; cases e
    | row el es n d t =>
      intro _ _ _ _ _ e
      injection e with _ _ e1 e2 e3
      subst e1 e2 e3
      exact RowOk.hn hk
  have hfr : ∀ t, (t = it ∨ (t < 256 ∧ Lc.get t ≠ .any)) → ∀ (a : Act) (u v : Value), ((a.put (some x) u).put (some c) v).tmps[t]? = a.tmps[t]? := fun t htt a u v => by
    obtain ⟨q1, q2, _⟩ := hfree t htt
    rw [put_ne _ _ _ _ (Ne.symm q2), put_ne _ _ _ _ (Ne.symm q1)]
  have hgd : ∀ (a a' : Act), a'.tmps[it]? = a.tmps[it]? → a.tmps.getD it undef = .pointer (some ⟨r, 0, none⟩) → a'.tmps.getD it undef = .pointer (some ⟨r, 0, none⟩) := fun a a' h1 h2 => by
    rw [Array.getD_eq_getD_getElem?] at h2 ⊢
    rw [h1]
    exact h2
  refine range_wp (P := P) (es.toList.zip l) Prod.fst z1 hbn hrm hN hNd hNg hE hEd hEg
    (fun V a w => ∃ oV, syncO so ls (V.map Prod.snd) o = some oV ∧ Sim η base W ρ (H.put si oV) w ∧ LocOk η ρ H.nx Lc a ∧ a.tmps.size = nt ∧ a.tmps.getD it undef = .pointer (some ⟨r, 0, none⟩) ∧
      w.heap[r]? = some (.mapIter (some (ρ.b m)) clock (V.map fun z => z.1.born).toArray clock) ∧ w.heap[ρ.b m]? = some (.map es clock)) ?_ ?_ ?_ a w ?_
  · rintro V a w ⟨oV, q1, q2, q3, q4, q5, q6, q7⟩
    exact ⟨q5, q6, q7, by omega, by omega⟩
  · rintro V a w hp ⟨oV, q1, q2, q3, q4, q5, q6, q7⟩
    have hp2 : l.Perm (V.map Prod.snd) := by
      have := hp.map Prod.snd
      rw [z2] at this
      exact this.symm
    have := syncO_perm hp2 hkn hrow hsync
    rw [q1] at this
    injection this with this
    subst this
    refine ⟨rfl, q2, q3.frame q3.defers fun t h6 htt => hfr t (.inr ⟨h6, htt⟩) a _ _, by rw [put_size, put_size]; exact q4⟩
  · rintro V z R a w w1 hp ⟨oV, q1, q2, q3, q4, q5, q6, q7⟩ hw1
    have hz : z ∈ es.toList.zip l := hp.mem_iff.1 (by simp)
    obtain ⟨k1, k2⟩ := z3 z hz
    have hzl : z.2 ∈ l := by rw [← z2]; exact List.mem_map.2 ⟨z, hz, rfl⟩
    have hze : z.1 ∈ es.toList := by
      have : z.1 ∈ (es.toList.zip l).map Prod.fst := List.mem_map.2 ⟨z, hz, rfl⟩
      rwa [z1] at this
    obtain ⟨wf1, wf2⟩ := hwf z.2 hzl
    have hp2 : l.Perm ((V ++ z :: R).map Prod.snd) := by
      have := hp.map Prod.snd
      rw [z2] at this
      exact this.symm
    have hall := syncO_perm hp2 hkn hrow hsync
    rw [List.map_append] at hall
    obtain ⟨oV', s1, s2⟩ := syncO_append hall
    rw [q1] at s1
    injection s1 with s1
    subst s1
    rw [List.map_cons] at s2
    obtain ⟨o2, s3, s4⟩ := syncO_cons.1 s2
    obtain ⟨k, s5, s6, s7, s8⟩ := sync1_some s3
    -- the world behind the step
    have hw2r : w1.heap[r]? = some (.mapIter (some (ρ.b m)) clock (V.map fun z => z.1.born).toArray clock) := by rcases hw1 with rfl | rfl <;> exact q6
    have hw2m : w1.heap[ρ.b m]? = some (.map es clock) := by rcases hw1 with rfl | rfl <;> exact q7
    have sim1 : Sim η base W ρ (H.put si oV) w1 := by rcases hw1 with rfl | rfl <;> first | exact q2 | exact q2.same rfl rfl rfl rfl
    have hlive : ∀ i oi, i < (H.put si oV).nx → (H.put si oV).ob i = some oi → ρ.b i ≠ r := fun i oi hi hoi => by
      have hi : i < H.nx := hi
      by_cases he : si = i
      · subst he; exact fun e => hrsi e.symm
      · rw [Heap.ob_put_ne _ _ _ _ (by omega) (by omega) he] at hoi
        exact hr2 i oi hi hoi
    have hbt : ∀ k', (setBlock w1 r (.mapIter (some (ρ.b m)) clock ((V.map fun z => z.1.born).toArray.push z.1.born) clock)).heap[k']? = if k' = r then some (.mapIter (some (ρ.b m)) clock ((V.map fun z => z.1.born).toArray.push z.1.born) clock) else w1.heap[k']? := fun k' => setBlock_get hw2r
    have sim2 : Sim η base W ρ (H.put si oV) (setBlock w1 r (.mapIter (some (ρ.b m)) clock ((V.map fun z => z.1.born).toArray.push z.1.born) clock)) :=
      sim1.off hr1 hlive (fun k' hk' => by rw [hbt, if_neg hk']) (by simp [setBlock]) rfl rfl rfl
    have hw3r := hbt r
    rw [if_pos rfl] at hw3r
    have hw3m := hbt (ρ.b m)
    rw [if_neg (fun e => hrm e.symm), hw2m] at hw3m
    generalize (setBlock w1 r (.mapIter (some (ρ.b m)) clock ((V.map fun z => z.1.born).toArray.push z.1.born) clock)) = w2 at sim2 hw3r hw3m ⊢
    -- the slots behind the step
    have hL2 : LocOk η ρ H.nx Lc ((a.put (some x) (.tuple #[.bool true, z.1.key, z.1.val])).put (some c) (.bool true)) := q3.frame q3.defers fun t h6 htt => hfr t (.inr ⟨h6, htt⟩) a _ _
    have hs2 : ((a.put (some x) (.tuple #[.bool true, z.1.key, z.1.val])).put (some c) (.bool true)).tmps.size = nt := by rw [put_size, put_size]; exact q4
    have hi2 := hgd a _ (hfr it (.inl rfl) a (.tuple #[.bool true, z.1.key, z.1.val]) (.bool true)) q5
    generalize ((a.put (some x) (.tuple #[.bool true, z.1.key, z.1.val])).put (some c) (.bool true)) = a2 at hL2 hs2 hi2 ⊢
    obtain ⟨L9, L10, b1', b2', b3', b4'⟩ := hbody (H.put si oV) z.2 k (by
      unfold Heap.cell
      rw [Heap.ob_put_ne _ _ _ _ (by omega) (by omega) (fun e => hide e.symm)]) s5 s6
    apply wp_block
    apply wp_seq
    apply wp_region
    rw [h9]
    have hsz9 : (oY :: l9).toArray.size = l9.length + 1 := by simp
    rw [hsz9, List.range_eq_range', List.range'_succ]
    unfold wpOps
    have ho0 : (oY :: l9).toArray[0]? = some oY := by simp
    simp only [ho0]
    rw [if_pos (by simp [Region.wanted, hYg])]
    left
    unfold Oper.wp
    have e1 : (execOp a2.eval oY).run P w2 = .ok (.value (.tuple #[z.1.key, z.1.val])) w2 := by
      simp only [execOp, hY]
      have : a2.eval (.tmp it) = .pointer (some ⟨r, 0, none⟩) := hi2
      apply run_v
      rw [this]
      exact run_entry_at w2 r (ρ.b m) clock _ es clock z.1 hw3r hw3m hze hbn.2
    rw [e1, Oper.upon_value, hYd]
    have hL3 : LocOk η ρ H.nx ((putC (some y)).put (.tup [z.2.1, z.2.2]) Lc) (a2.put (some y) (.tuple #[z.1.key, z.1.val])) := by
      refine hL2.put (.inr ⟨.tup (fun u hu => ?_), ?_⟩) (fun t htt => ?_)
      · rcases List.mem_cons.1 hu with rfl | hu
        · exact wf1
        · obtain rfl := List.mem_singleton.1 hu
          exact wf2
      · rw [k1, k2]; simp [val, vals]
      · obtain rfl : y = t := by injection htt
        exact ⟨Nat.lt_of_lt_of_le hy ht, by rw [hs2]; exact hy⟩
    have step9 := looks_wp (P := P) (ops := (oY :: l9).toArray) (rest := []) (Q := Exit.then (Code.wp P (.region i10 ops10 false) (Exit.inBlock b1 fun e a' w' => e = Exit.normal ∧ ∃ oV, syncO so ls ((V ++ [z]).map Prod.snd) o = some oV ∧ Sim η base W ρ (H.put si oV) w' ∧ LocOk η ρ H.nx Lc a' ∧ a'.tmps.size = nt ∧ a'.tmps.getD it undef = .pointer (some ⟨r, 0, none⟩) ∧
      w'.heap[r]? = some (.mapIter (some (ρ.b m)) clock ((V ++ [z]).map fun z => z.1.born).toArray clock) ∧ w'.heap[ρ.b m]? = some (.map es clock))) (Exit.inBlock b1 fun e a' w' => e = Exit.normal ∧ ∃ oV, syncO so ls ((V ++ [z]).map Prod.snd) o = some oV ∧ Sim η base W ρ (H.put si oV) w' ∧ LocOk η ρ H.nx Lc a' ∧ a'.tmps.size = nt ∧ a'.tmps.getD it undef = .pointer (some ⟨r, 0, none⟩) ∧
      w'.heap[r]? = some (.mapIter (some (ρ.b m)) clock ((V ++ [z]).map fun z => z.1.born).toArray clock) ∧ w'.heap[ρ.b m]? = some (.map es clock))) ht hη sim2 l9 1 _ L9 _ (fun j o' hj => by
        rw [Nat.add_comm]; simpa using hj) b1' hL3 (by rw [put_size]; exact hs2) ?_
    · rw [List.append_nil] at step9
      exact step9
    intro a4 g1 g2 g3
    show (Code.region i10 ops10 false).wp P _ a4 w2
    apply wp_region
    rw [h10]
    have hsz10 : (l10 ++ [oS]).toArray.size = l10.length + 1 := by simp
    rw [hsz10, List.range_eq_range', ← List.range'_append_1]
    refine looks_wp (P := P) (ops := (l10 ++ [oS]).toArray) ht hη sim2 l10 0 _ L10 _ (fun j o' hj => by
      have := (List.getElem?_eq_some_iff.1 hj).1
      simp [List.getElem?_append_left this, hj]) b2' g1 g2 ?_
    intro a5 g4 g5 g6
    rw [show List.range' (0 + l10.length) 1 = [l10.length] by simp]
    unfold wpOps
    have hoS : (l10 ++ [oS]).toArray[l10.length]? = some oS := by simp
    simp only [hoS]
    rw [if_pos (by simp [Region.wanted, hSg])]
    left
    have ea : a5.eval xa = .pointer (some ⟨ρ.b si, ρ.d si + (so + k), none⟩) := (tells_ptr (gOf_sound g4 xa) (show ((gOf xa).g L10).vp = .ptr si (so + k) by rw [b3']; rfl)).1
    have ev : a5.eval xv = val ρ η z.2.2 := by
      have := ((gOf_sound g4 xv).of (by rw [b4']; rintro e; rw [e] at s7; cases s7)).2
      rw [b4'] at this
      exact this
    obtain ⟨w3, r1, r2, r3⟩ := store1 (P := P) (H := H.put si oV) hη hS hzy sim2 (show si < (H.put si oV).nx from hsi) (Heap.ob_put_same _ _ _) s8 wf2 s7 ea ev
    unfold Oper.wp
    rw [r1, Oper.upon_skip, hSd]
    unfold wpOps
    show Exit.normal = Exit.normal ∧ _
    have hslots : ∀ t, (t = it ∨ (t < 256 ∧ Lc.get t ≠ .any)) → a5.tmps[t]? = a2.tmps[t]? := fun t htt => by
      obtain ⟨f1, f2, f3, f4⟩ := hfree t htt
      rw [g6 t fun o' ho' => f4 o' (List.mem_append_right _ ho'), g3 t fun o' ho' => f4 o' (List.mem_append_left _ ho'), put_ne _ _ _ _ (Ne.symm f3)]
    refine ⟨rfl, o2, ?_, ?_, ?_, g5, ?_, ?_, ?_⟩
    · rw [List.map_append]
      have : ∀ (A : List (AV × AV)) (u u1 u2 : Ob) (p : AV × AV), syncO so ls A u = some u1 → sync1 so ls p u1 = some u2 → syncO so ls (A ++ [p]) u = some u2 := by
        intro A
        induction A with
        | nil =>
          intro u u1 u2 p h1 h2
          have : u = u1 := by injection h1
          subst this
          exact syncO_cons.2 ⟨u2, h2, rfl⟩
        | cons q A ih =>
          intro u u1 u2 p h1 h2
          obtain ⟨u3, h3, h4⟩ := syncO_cons.1 h1
          exact syncO_cons.2 ⟨u3, h3, ih _ _ _ _ h4 h2⟩
      exact this _ _ _ _ _ q1 s3
    · refine r2.congr rfl fun i hi => ?_
      have hi : i < H.nx := hi
      by_cases he : si = i
      · subst he; rw [Heap.ob_put_same, Heap.ob_put_same]
      · rw [Heap.ob_put_ne _ _ _ _ (by omega) (by omega) he, Heap.ob_put_ne _ _ _ _ (by omega) (by omega) he, Heap.ob_put_ne _ _ _ _ (by omega) (by omega) he]
    · exact hL2.frame g4.defers fun t h6 htt => hslots t (.inr ⟨h6, htt⟩)
    · exact hgd a2 a5 (hslots it (.inl rfl)) hi2
    · rw [r3 r hrsi, hw3r]; simp
    · rw [r3 _ hms, hw3m]
  · refine ⟨o, rfl, hsim.congr rfl fun i hi => ?_, hL, hs, hit, hr3, hme⟩
    have hi : i < H.nx := hi
    by_cases he : si = i
    · subst he; rw [Heap.ob_put_same, hso]
    · rw [Heap.ob_put_ne _ _ _ _ (by omega) (by omega) he]
end
end Go.Proofs.YtomicolllbhdaaaGreat.Ev
namespace Go.Proofs.YtomicolllbhdaaaGreat.Ev
open Go.RowKit (Below)
open Go.ChangeMaps (setBlock)
set_option linter.unusedVariables false
section
variable {P : Program} {η : Nat → Value} {base : Nat} {W w w' : World} {ρ ρ' ρ0 ρ1 : Ren} {H H' : Heap} {L : Loc} {a : Act} {nx nx' n0 n1 nt : Nat}
noncomputable def Lany : Loc := N16.rep (N16.rep AV.any)
/-- One slot told, no other one. -/
noncomputable def Lone (id off : Nat) : Loc := Loc.put 0 (.ptr id off) Lany
theorem Lone_get (id off t : Nat) (ht : t < 256) : (Lone id off).get t = if t = 0 then .ptr id off else .any := by
  unfold Lone
  rw [Loc.get_put t 0 ht (by omega)]
  split
  · rfl
  · show (selOf (t % 16)).sel ((selOf (t / 16)).sel (N16.rep (N16.rep AV.any))) = _
    rw [sel_rep _ (by omega), sel_rep _ (by omega)]
/-- A part of code of which it is known what it does. -/
def CodeOk (P : Program) (η : Nat → Value) (base : Nat) (W : World) (nt : Nat) (c : Code) (k : Loc → Heap → Out) : Prop :=
  ∀ (L : Loc) (H : Heap) (out : Out) (ρ : Ren) (ρ0 : Ren) (n0 : Nat) (a : Act) (w : World), k L H = out → out ≠ .fail → St η base W nt ρ0 n0 ρ L H a w → c.wp P (After η base W nt ρ0 n0 out) a w
theorem seq_ok {x y : Code} {kx ky : Loc → Heap → Out} (hx : CodeOk P η base W nt x kx) (hy : CodeOk P η base W nt y ky) : CodeOk P η base W nt (.seq x y) fun L H => Out.rec ky .exit .ret .fail (kx L H) := by
  intro L H out ρ ρ0 n0 a w h hn hS
  apply wp_seq
  cases ho : kx L H with
  | fail => simp only [ho] at h; exact absurd h.symm hn
  | norm L1 H1 =>
    simp only [ho] at h
    refine wp_mono (hx L H _ ρ ρ0 n0 a w ho (by simp) hS) fun e a w he => ?_
    cases e with
    | normal =>
      obtain ⟨L2, H2, ρ2, h1, h2⟩ := he
      injection h1 with h1 h3
      subst h1
      subst h3
      exact hy L1 H1 out ρ2 ρ0 n0 a w h hn h2
    | exit id => obtain ⟨_, _, _, h1, _⟩ := he; cases h1
    | ret => obtain ⟨_, _, _, h1, _⟩ := he; cases h1
    | goto l => exact he.elim
    | panic ch => exact he.elim
    | outgrown => exact he.elim
  | exit i L1 H1 =>
    simp only [ho] at h
    subst h
    refine wp_mono (hx L H _ ρ ρ0 n0 a w ho (by simp) hS) fun e a w he => ?_
    cases e with
    | normal => obtain ⟨_, _, _, h1, _⟩ := he; cases h1
    | _ => exact he
  | ret L1 H1 =>
    simp only [ho] at h
    subst h
    refine wp_mono (hx L H _ ρ ρ0 n0 a w ho (by simp) hS) fun e a w he => ?_
    cases e with
    | normal => obtain ⟨_, _, _, h1, _⟩ := he; cases h1
    | _ => exact he
theorem codeC_ok {cb : CB} (hm : P.follows .mixedOrders = true) (ht : nt ≤ 256) (hη : Leaves η) (hcb : CBok P η base W cb) (c : Code) : CodeOk P η base W nt c fun L H => (codeC P nt c).run cb L H :=
  fun L H out ρ ρ0 n0 a w h hn hS => code_ok hm ht hη hcb c L H out ρ a w h hn hS
/-- What the loop of Sync makes. -/
noncomputable def syncK (P : Program) (nt : Nat) (l7 : List Oper) (tmap : Nat) (L : Loc) (H : Heap) : Out :=
  Option.rec .fail (fun L7 => VP.rec .fail .fail (fun id off => VM.rec .fail .fail (fun m => Option.rec .fail (fun c0 => VL.rec .fail .fail (fun si so ls _ => Option.rec .fail (fun l => Option.rec .fail (fun o => Option.rec .fail
    (fun oF => Bool.rec .fail (.norm (Lone id off) (H.put si oF)) (and' (keysNe l) (and' (not' (Nat.beq m si)) (not' (Nat.beq id si)))))
    (syncO so ls l o)) (H.ob si)) (H.mp m)) (fun _ _ _ _ => .fail) c0.vl) (H.cell id off)) ((gOf (.tmp tmap)).g L7).vm) ((gOf (.tmp 0)).g L7).vp) (looksC P nt H l7 L)
theorem vmrec_fail {x : VM} {f : Nat → Out} {out : Out} (h : (VM.rec .fail .fail f x : Out) = out) (hn : out ≠ .fail) : ∃ m, x = .map m ∧ f m = out := by
  cases x <;> first | exact absurd h.symm hn | exact ⟨_, rfl, h⟩
theorem vprec_fail {x : VP} {f : Nat → Nat → Out} {out : Out} (h : (VP.rec .fail .fail f x : Out) = out) (hn : out ≠ .fail) : ∃ i o, x = .ptr i o ∧ f i o = out := by
  cases x <;> first | exact absurd h.symm hn | exact ⟨_, _, rfl, h⟩
theorem vlrec_fail {x : VL} {f : Nat → Nat → Nat → Nat → Out} {out : Out} (h : (VL.rec .fail .fail f (fun _ _ _ _ => .fail) x : Out) = out) (hn : out ≠ .fail) : ∃ i o l c, x = .sl i o l c ∧ f i o l c = out := by
  cases x <;> first | exact absurd h.symm hn | exact ⟨_, _, _, _, rfl, h⟩
theorem orec_fail' {α : Type} {x : Option α} {f : α → Out} {out : Out} (h : (Option.rec .fail f x : Out) = out) (hn : out ≠ .fail) : ∃ v, x = some v ∧ f v = out := by
  cases x with
  | none => exact absurd h.symm hn
  | some v => exact ⟨v, rfl, h⟩
theorem not'_beq {a b : Nat} (h : not' (Nat.beq a b) = true) : a ≠ b := by
  rintro rfl
  rw [Nat.beq_refl] at h
  cases h
theorem sync_code {it x c y b0 b1 i7 i8 i9 i10 tmap tm kt et : Nat} {oR oN oE oY oS : Oper} {l7 l9 l10 : List Oper} {ops7 ops9 ops10 : Array Oper} {ty : TypeId} {xa xv : Operand} (ht : nt ≤ 256) (hη : Leaves η)
    (h7 : ops7 = (l7 ++ [oR]).toArray) (hR : oR.op = .range tm (.tmp tmap)) (hRd : oR.dst = some it) (hRg : oR.guard = none) (hum : P.underlying tm = some (.map kt et)) (hit : it < nt)
    (hN : oN.op = .next (.tmp it) false) (hNd : oN.dst = some x) (hNg : oN.guard = none) (hE : oE.op = .extract (.tmp x) 0) (hEd : oE.dst = some c) (hEg : oE.guard = none)
    (hY : oY.op = .entry (.tmp it)) (hYd : oY.dst = some y) (hYg : oY.guard = none) (hS : oS.op = .store ty xa xv) (hSd : oS.dst = none) (hSg : oS.guard = none) (hzy : szOf P ty = some 1)
    (h9 : ops9 = (oY :: l9).toArray) (h10 : ops10 = (l10 ++ [oS]).toArray) (hx : x < nt) (hc : c < nt) (hy : y < nt)
    (hfree : ∀ t, (t = it ∨ t = 0) → t ≠ x ∧ t ≠ c ∧ t ≠ y ∧ ∀ o ∈ l9 ++ l10, o.dst ≠ some t) (hit0 : it ≠ 0)
    (hbody : ∀ (id off si so ls cp : Nat) (H' : Heap) (p : AV × AV) (k : Nat), H'.cell id off = some (.sl si so ls cp) → p.1.vx = some k → k < ls → ∃ L9 L10, looksC P nt H' l9 ((putC (some y)).put (.tup [p.1, p.2]) (Lone id off)) = some L9 ∧ looksC P nt H' l10 L9 = some L10 ∧ (gOf xa).g L10 = .ptr si (so + k) ∧ (gOf xv).g L10 = p.2) :
    CodeOk P η base W nt (.seq (.region i7 ops7 false) (.block b0 (.loop (.seq (.region i8 #[oN, oE] false) (.seq (.cond (.tmp c) .skip (.exit b0)) (.block b1 (.seq (.region i9 ops9 false) (.region i10 ops10 false)))))))) fun L H => syncK P nt l7 tmap L H := by
  intro L H out ρ ρ0 n0 a w h hn hst
  obtain ⟨L7, e1, h⟩ := orec_fail' h hn
  obtain ⟨id, off, e2, h⟩ := vprec_fail h hn
  obtain ⟨m, e3, h⟩ := vmrec_fail h hn
  obtain ⟨c0, e4, h⟩ := orec_fail' h hn
  obtain ⟨si, so, ls, cp, e5, h⟩ := vlrec_fail h hn
  obtain ⟨l, e6, h⟩ := orec_fail' h hn
  obtain ⟨o, e7, h⟩ := orec_fail' h hn
  obtain ⟨oF, e8, h⟩ := orec_fail' h hn
  obtain ⟨e9, h⟩ := brec_fail h hn
  subst h
  rw [and'_eq, and'_eq, Bool.and_eq_true, Bool.and_eq_true] at e9
  obtain ⟨e10, e11, e12⟩ := e9
  have e11 := not'_beq e11
  have e12 := not'_beq e12
  obtain rfl := vl_sl e5
  apply wp_seq
  apply wp_region
  rw [h7]
  have hsz7 : (l7 ++ [oR]).toArray.size = l7.length + 1 := by simp
  rw [hsz7, List.range_eq_range', ← List.range'_append_1]
  refine looks_wp (P := P) (ops := (l7 ++ [oR]).toArray) ht hη hst.sim l7 0 L L7 a (fun j o' hj => by
    have := (List.getElem?_eq_some_iff.1 hj).1
    simp [List.getElem?_append_left this, hj]) e1 hst.loc hst.size ?_
  intro a7 g1 g2 g3
  obtain ⟨p1, p2⟩ := tells_ptr (gOf_sound g1 (.tmp 0)) e2
  obtain ⟨m1, m2⟩ := vm_tells (gOf_sound g1 (.tmp tmap)) e3
  obtain ⟨c1, c2, c3⟩ := hst.sim.cell p2 e4
  obtain ⟨hwf, es, clock, q1, q2, q3⟩ := hst.sim.mp m2 e6
  have hsi : si < H.nx := by cases c2; assumption
  rw [show List.range' (0 + l7.length) 1 = [l7.length] by simp]
  unfold wpOps
  have hoR : (l7 ++ [oR]).toArray[l7.length]? = some oR := by simp
  simp only [hoR]
  rw [if_pos (by simp [Region.wanted, hRg])]
  left
  unfold Oper.wp
  have er : (execOp a7.eval oR).run P w = .ok (.value (.pointer (some ⟨w.heap.size, 0, none⟩))) (w.alloc (.mapIter (some (ρ.b m)) clock #[] clock)) := by
    simp only [execOp, hR]
    apply run_vw
    rw [m1]
    have hget : (getObj (ρ.b m)).run P w = .ok (.map es clock) w := by simp [getObj, Sem.run, q1]
    simp [Instr.range, run_underlying hum, hget]
  rw [er, Oper.upon_value, hRd]
  unfold wpOps
  show (Code.block b0 _).wp P _ _ _
  apply wp_block
  have hmlt : ρ.b m < w.heap.size := (Array.getElem?_eq_some_iff.1 q1).1
  have hal : ∀ k, k < w.heap.size → (w.alloc (.mapIter (some (ρ.b m)) clock #[] clock)).heap[k]? = w.heap[k]? := fun k hk => heap_alloc_lt _ _ hk
  have hL7 : LocOk η ρ H.nx (Lone id off) a7 := g1.less fun t ht' => by
    rw [Lone_get id off t ht']
    by_cases h0 : t = 0
    · subst h0
      rw [if_pos rfl]
      right
      have : (gOf (.tmp 0)).g L7 = L7.get 0 := by simp only [gOf, if_pos (by decide : 0 < 256)]; rfl
      rw [← this, vp_ptr e2]
    · rw [if_neg h0]; exact .inl rfl
  have hfr' : ∀ t, (t = it ∨ (t < 256 ∧ (Lone id off).get t ≠ .any)) → (t = it ∨ t = 0) := fun t h => h.imp (fun e => e) fun ⟨h1, h2⟩ => by
    rw [Lone_get id off t h1] at h2
    by_cases h0 : t = 0
    · exact h0
    · rw [if_neg h0] at h2; exact absurd rfl h2
  have := sync_loop (P := P) (w := w.alloc (.mapIter (some (ρ.b m)) clock #[] clock)) (r := w.heap.size) (a := a7.put (some it) (.pointer (some ⟨w.heap.size, 0, none⟩))) (b0 := b0) (b1 := b1) (i8 := i8) (i9 := i9) (i10 := i10) (Lc := Lone id off) ht hη hN hNd hNg hE hEd hEg hY hYd hYg hS hSd hSg hzy h9 h10 hx hc hy
    (fun t h => hfree t (hfr' t h)) m2 e6 hsi e7 e11 p2 e12 (keysNe_ok e10) e8
    (fun H' p k h1 h2 h3 => hbody id off si so ls cp H' p k (by rw [h1]; exact e4) h2 h3)
    (hst.sim.grow rfl rfl rfl rfl) hst.sim.hb (fun i oi hi hoi => by have := (hst.sim.ob i oi hi hoi).2.lt; omega) (by
      show (w.heap.push _)[w.heap.size]? = _
      simp) (by rw [hal _ hmlt]; exact q1) q2 q3
    (hL7.frame hL7.defers fun t h6 hne => put_ne _ _ _ _ (by
      rintro rfl
      rw [Lone_get id off it h6, if_neg hit0] at hne
      exact hne rfl)) (by rw [put_size]; exact g2) (put_get _ _ _ (by rw [g2]; exact hit))
  refine wp_mono this ?_
  rintro e a w ⟨rfl, s1, s2, s3⟩
  show (if b0 = b0 then _ else _)
  rw [if_pos rfl]
  exact ⟨_, _, ρ, rfl, s1, s2, s3, hst.ext, hst.le⟩
/-- Sync, as the evaluator takes it. -/
noncomputable def syncFn (P : Program) (fn : Func) (R0 A1 A2 Post : Code) (l7 : List Oper) (tmap : Nat) : FnC :=
  ⟨fun cb args H => Bool.rec .none (Out.rec (fun L H => (outC P fn.results).out L H) (fun _ _ _ => .none) (fun L H => (outC P fn.results).out L H) .none
    (Out.rec (fun L H => Out.rec (fun L H => Out.rec (fun L H => Out.rec (fun L H => (codeC P fn.ntmps Post).run cb L H) .exit .ret .fail (syncK P fn.ntmps l7 tmap L H)) .exit .ret .fail ((codeC P fn.ntmps A2).run cb L H)) .exit .ret .fail ((codeC P fn.ntmps A1).run cb L H)) .exit .ret .fail ((codeC P fn.ntmps R0).run cb (argsIn args L0) H))) (Nat.ble (len args) fn.ntmps)⟩
theorem syncFn_ok {fn : Func} {f : Nat} {R0 A1 A2 Lp Post : Code} {l7 : List Oper} {tmap : Nat} {cb : CB} {args : List AV} {v : AV} (hm : P.follows .mixedOrders = true) (ht : fn.ntmps ≤ 256) (hη : Leaves η) (hcb : CBok P η base W cb) (hf : P.funcs[f]? = some fn)
    (hb : fn.body = some (.seq R0 (.seq A1 (.seq A2 (.seq Lp Post))))) (hLp : CodeOk P η base W fn.ntmps Lp fun L H => syncK P fn.ntmps l7 tmap L H)
    (h : (syncFn P fn R0 A1 A2 Post l7 tmap).run cb args H = .some v H') (hS : Sim η base W ρ H w) (hw : ∀ x ∈ args, Wf ρ H.nx x) : Calls P f (args.map (val ρ η)).toArray w fun e w' =>
      ∃ ρ', e = .returned (val ρ' η v) ∧ Ext ρ ρ' H.nx ∧ H.nx ≤ H'.nx ∧ Sim η base W ρ' H' w' ∧ Wf ρ' H'.nx v := by
  have hR := seq_ok (codeC_ok hm ht hη hcb R0) (seq_ok (codeC_ok hm ht hη hcb A1) (seq_ok (codeC_ok hm ht hη hcb A2) (seq_ok hLp (codeC_ok hm ht hη hcb Post))))
  exact fn_ok ht hη hf hb (fun L H out ρ n0 a w h hn hS => hR L H out ρ ρ n0 a w h hn hS) h hS hw
/-- A text of so many zero bytes. -/
noncomputable def repFn : FnC := ⟨fun _ a H => match a with | [.str l n, .i64 k] => Bool.rec .none (.some (.str (Nat.mul l k) 0) H) (and' (Nat.beq n 0) (and' (Nat.ble (Nat.mul l k) 1000000000) (Nat.ble k 1000000000))) | _ => .none⟩
/-- A world that only grew. -/
theorem Sim.later (h : Sim η base W ρ H w) (hb : Below w.heap.size w w') : Sim η base W ρ H w' := by
  refine ⟨h.lt, fun j oj hj hoj => ?_, h.inj, h.below.trans (hb.mono h.hb), Nat.le_trans h.hb hb.size⟩
  obtain ⟨g1, g2⟩ := h.ob j oj hj hoj
  exact ⟨g1, g2.ext (Ext.refl _ _) (Nat.le_refl _) hj (hb.block _ g2.lt)⟩
theorem map_zero_range (l : Nat) : (List.range l).map (fun _ => (0 : UInt8)) = List.replicate l 0 := by
  apply List.ext_getElem?
  intro i
  rw [List.getElem?_map, List.getElem?_replicate]
  by_cases h : i < l
  · rw [List.getElem?_eq_getElem (by simpa using h), if_pos h]; rfl
  · rw [List.getElem?_eq_none (by simpa using h), if_neg h]; rfl
theorem bytesOf_zero (l : Nat) : bytesOf l 0 = List.replicate l 0 := by
  have h : byteAt l 0 = fun _ => 0 := by funext i; simp [byteAt]
  unfold bytesOf
  rw [h]
  exact map_zero_range l
theorem repeatL_zero (l : Nat) : ∀ k, Lib.repeatL (List.replicate l (0 : UInt8)) k = List.replicate (l * k) 0
  | 0 => rfl
  | k + 1 => by
    rw [Lib.repeatL, repeatL_zero l k, List.replicate_append_replicate]
    congr 1
    rw [Nat.mul_succ]
    omega
theorem repFn_ok {f : Nat} {cb : CB} {args : List AV} {v : AV} (hrep : ∀ (s : ByteArray) (c : Nat) (w : World), c ≤ 9223372036854775807 → s.size * c ≤ 140737488355328 → Calls P f #[.string s, .int .i64 c] w fun e w' => e = .returned (.string ⟨(Lib.repeatL s.data.toList c).toArray⟩) ∧ Below w.heap.size w w')
    (h : repFn.run cb args H = .some v H') (hS : Sim η base W ρ H w) (hw : ∀ x ∈ args, Wf ρ H.nx x) : Calls P f (args.map (val ρ η)).toArray w fun e w' =>
      ∃ ρ', e = .returned (val ρ' η v) ∧ Ext ρ ρ' H.nx ∧ H.nx ≤ H'.nx ∧ Sim η base W ρ' H' w' ∧ Wf ρ' H'.nx v := by
  unfold repFn at h
  simp only at h
  split at h
  · rename_i l n k
    obtain ⟨h1, h2⟩ := bres_some h
    injection h2 with h2 h3
    subst h2
    subst h3
    rw [and'_eq, and'_eq, Bool.and_eq_true, Bool.and_eq_true] at h1
    obtain ⟨h4, h5, h6⟩ := h1
    obtain rfl := Nat.eq_of_beq_eq_true h4
    have h5 : l * k ≤ 1000000000 := Nat.le_of_ble_eq_true h5
    have h6 : k ≤ 1000000000 := Nat.le_of_ble_eq_true h6
    have hc := hrep ⟨(bytesOf l 0).toArray⟩ k w (by omega) (by
      rw [bytesOf_zero]
      show (List.replicate l (0 : UInt8)).toArray.size * k ≤ _
      simp
      omega)
    have ha : (List.map (val ρ η) [.str l 0, .i64 k]).toArray = #[.string ⟨(bytesOf l 0).toArray⟩, .int .i64 k] := by
      simp only [List.map_cons, List.map_nil, val, iv64]
      rw [if_pos (by omega)]
    rw [ha]
    refine hc.mono ?_
    rintro e w' ⟨rfl, hb⟩
    refine ⟨ρ, ?_, Ext.refl _ _, Nat.le_refl _, hS.later hb, .str (Nat.two_pow_pos _)⟩
    simp only [val]
    congr 2
    show (ByteArray.mk (Lib.repeatL (bytesOf l 0).toArray.toList k).toArray) = ByteArray.mk (bytesOf (l * k) 0).toArray
    rw [bytesOf_zero, bytesOf_zero, List.toList_toArray, repeatL_zero]
  · cases h
end
end Go.Proofs.YtomicolllbhdaaaGreat.Ev
namespace Go.Proofs.YtomicolllbhdaaaGreat.Ev
open Go.RowKit (Below)
set_option linter.unusedVariables false
section
variable {P : Program} {η : Nat → Value} {base : Nat} {W w w' : World} {H H' : Heap}
def ren0 : Ren := ⟨fun _ => 0, fun _ => 0, fun _ => 0⟩
theorem sim0 (w : World) : Sim η w.heap.size w ren0 H0 w :=
  ⟨by decide, fun id o hid _ => absurd hid (Nat.not_lt_zero _), fun i j oi oj hi _ _ _ _ => absurd hi (Nat.not_lt_zero _), Below.refl _ _, Nat.le_refl _⟩
/-- What the evaluator told of a call from nothing, the call does in every world. -/
theorem calls_of_ev {sp : Nat → Option FnC} {n f : Nat} {args : List AV} {v : AV} (hm : P.follows .mixedOrders = true) (hη : Leaves η) (hsp : ∀ (base : Nat) (W : World), SpOk P η base W sp) (hw : ∀ x ∈ args, Wf ren0 0 x) (h : evFn P sp n f args H0 = .some v H') (w : World) :
    Calls P f (args.map (val ren0 η)).toArray w fun e w' => (∃ ρ', e = .returned (val ρ' η v)) ∧ Below w.heap.size w w' := by
  obtain ⟨_, h1⟩ := evFn_ok (base := w.heap.size) (W := w) hm hη (hsp _ _) n f args H0 v H' h
  refine (h1 ren0 w (sim0 w) hw).mono ?_
  rintro e w' ⟨ρ', rfl, _, _, hS, _⟩
  exact ⟨⟨ρ', rfl⟩, hS.below⟩
/-- A function that is known to answer true, and to turn nothing. -/
noncomputable def trueFn : FnC := ⟨fun _ a H => match a with | [] => .some (.bool true) H | _ => .none⟩
theorem trueFn_ok {f : Nat} {ρ : Ren} {cb : CB} {args : List AV} {v : AV} (hc : ∀ w, Calls P f #[] w fun e w' => e = .returned (.bool true) ∧ Below w.heap.size w w')
    (h : trueFn.run cb args H = .some v H') (hS : Sim η base W ρ H w) (hw : ∀ x ∈ args, Wf ρ H.nx x) : Calls P f (args.map (val ρ η)).toArray w fun e w' =>
      ∃ ρ', e = .returned (val ρ' η v) ∧ Ext ρ ρ' H.nx ∧ H.nx ≤ H'.nx ∧ Sim η base W ρ' H' w' ∧ Wf ρ' H'.nx v := by
  unfold trueFn at h
  simp only at h
  split at h
  · injection h with h2 h3
    subst h2
    subst h3
    refine (hc w).mono ?_
    rintro e w' ⟨rfl, hb⟩
    exact ⟨ρ, rfl, Ext.refl _ _, Nat.le_refl _, hS.later hb, .bool true⟩
  · cases h
end
end Go.Proofs.YtomicolllbhdaaaGreat.Ev
