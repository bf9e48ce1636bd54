/- What the evaluator tells of the law. It proves no statement. -/
import Derived.Test.YtacejlibeddkcaaGreatEvF
import Derived.Test.YtacejlibeddkcaaGreatEvG
import Derived.Test.YtacejlibeddkcaaGreatSt9
set_option linter.unusedVariables false
set_option linter.unusedSimpArgs false
set_option linter.unusedSectionVars false
set_option maxRecDepth 1000000
namespace Go.Proofs.YtacejlibeddkcaaGreat.Ev
open Go.Proofs
open Go.RowKit (Below)
set_option linter.unusedVariables false
def awakeTrue : Prop := ∀ w : World, Calls Tryz.prog 20 #[] w fun e w' => e = .returned (.bool true) ∧ Below w.heap.size w w'
noncomputable def spL (f : Nat) : Option FnC := if f = 20 then some trueFn else sp f
theorem spL_ok (hA : awakeTrue) {η : Nat → Value} {base : Nat} {W : World} (hη : Leaves η) : SpOk Tryz.prog η base W spL := by
  intro f s hs cb hcb args H v H' h ρ w hS hw
  unfold spL at hs
  split at hs
  · rename_i hf
    subst hf
    injection hs with hs
    subst hs
    exact trueFn_ok hA h hS hw
  · exact sp_ok hη f s hs cb hcb args H v H' h ρ w hS hw
theorem law_true : isTrue (evFn Tryz.prog spL 60 3 [.sym 0, .sym 1] H0) = true := by kernel_rfl
theorem isTrue_some {r : Res} (h : isTrue r = true) : ∃ H, r = .some (.bool true) H := by
  cases r with
  | none => cases h
  | some v H =>
    have h : (Option.rec false (fun b => b) v.vb : Bool) = true := h
    cases hv : v.vb with
    | none => rw [hv] at h; cases h
    | some b =>
      rw [hv] at h
      have h : b = true := h
      subst h
      exact ⟨H, by rw [vb_some hv]⟩
theorem law_walk (hA : awakeTrue) (s : ByteArray) (n : Int) (w : World) : Calls Tryz.prog 3 #[.string s, .int .i64 n] w fun e w' => e = .returned (.bool true) ∧ Below w.heap.size w w' := by
  obtain ⟨H, h⟩ := isTrue_some law_true
  have hη : Leaves (fun i => if i = 0 then Value.string s else .int .i64 n) := by
    intro i
    by_cases h : i = 0
    · simp only [h, if_true]; exact ⟨rfl, rfl⟩
    · simp only [h, if_false]; exact ⟨rfl, rfl⟩
  have := calls_of_ev mixed hη (fun base W => spL_ok hA hη) (fun x hx => by
    rcases List.mem_cons.1 hx with rfl | hx
    · exact .sym 0
    · obtain rfl := List.mem_singleton.1 hx
      exact .sym 1) h w
  have e : (List.map (val ren0 (fun i => if i = 0 then Value.string s else .int .i64 n)) [.sym 0, .sym 1]).toArray = #[.string s, .int .i64 n] := by simp [val]
  rw [e] at this
  refine this.mono ?_
  rintro e w' ⟨⟨ρ', rfl⟩, hb⟩
  exact ⟨by simp [val], hb⟩
end Go.Proofs.YtacejlibeddkcaaGreat.Ev
namespace Go.Proofs.YtacejlibeddkcaaGreat.Ev
open Go.Proofs
open Go.RowKit (Below)
set_option linter.unusedVariables false
set_option maxRecDepth 100000
theorem seq_run {a b : Code} {L : Loc} {H : Heap} : run (.seq a b) L H = Out.rec (run b) .exit .ret .fail (run a L H) := rfl
theorem block_run {a : Code} {id : Nat} {L : Loc} {H : Heap} : run (.block id a) L H = Out.rec .norm (fun i L H => Bool.rec (.exit i L H) (.norm L H) (Nat.beq i id)) .ret .fail (run a L H) := rfl
theorem loop_run {a : Code} {L : Loc} {H : Heap} : run (.loop a) L H = loopN (codeC Tryz.prog 50 a) rounds cb L H := codeC_loop
theorem loop_exit {a : CodeC} {i : Nat} {L L' : Loc} {H H' : Heap} (h : a.run cb L H = .exit i L' H') (m : Nat) : loopN a (m + 1) cb L H = .exit i L' H' := by
  show (Out.rec (loopN a m cb) .exit .ret .fail (a.run cb L H) : Out) = _
  rw [h]
theorem bodyC_run {P : Program} {fn : Func} {c : Code} {cb : CB} {args : List AV} {H : Heap} (h : fn.ntmps ≤ 256) :
    (bodyC P fn c).run cb args H = Bool.rec .none (Out.rec (fun L H => (outC P fn.results).out L H) (fun _ _ _ => .none) (fun L H => (outC P fn.results).out L H) .none ((codeC P fn.ntmps c).run cb (argsIn args L0) H)) (Nat.ble (len args) fn.ntmps) := by
  unfold bodyC
  rw [if_pos h]
theorem run_seq {a b : Code} {L L1 : Loc} {H H1 : Heap} {o : Out} (h1 : run a L H = .norm L1 H1) (h2 : run b L1 H1 = o) : run (.seq a b) L H = o := by
  rw [seq_run, h1]
  exact h2
theorem run_loop {a : Code} {L L1 : Loc} {H H1 : Heap} (h : loopN (codeC Tryz.prog 50 a) rounds cb L H = .exit 0 L1 H1) : run (.block 0 (.loop a)) L H = .norm L1 H1 := by
  rw [block_run, loop_run, h]
  rfl
theorem loop_go {a : CodeC} {n m k : Nat} {L L1 : Loc} {H H1 : Heap} {o : Out} (hn : n = m + k) (h1 : loopN a (m + k) cb L H = loopN a m cb L1 H1) (h2 : loopN a m cb L1 H1 = o) : loopN a n cb L H = o := by
  rw [hn, h1, h2]
theorem loop_end {a : Code} {n m i : Nat} {L L1 : Loc} {H H1 : Heap} (hn : n = m + 1) (h : run a L H = .exit i L1 H1) : loopN (codeC Tryz.prog 50 a) n cb L H = .exit i L1 H1 := by
  rw [hn]
  exact loop_exit h m
theorem awake_loop : loopN (codeC Tryz.prog 50 aX) rounds cb A3L A3H = .exit 0 A7L A7H :=
  loop_go (m := 9996) (by decide) (A4_is _) (loop_go (m := 9993) (by decide) (A5_is _) (loop_go (m := 9990) (by decide) (A6_is _) (loop_end (m := 9989) (by decide) A7_is)))
theorem awake_run : run aB (argsIn [] L0) H0 = .ret A8L A8H := by
  rw [awake_body]
  exact run_seq A0_is (run_seq A1_is (run_seq A2_is (run_seq (run_seq A3_is (run_loop awake_loop)) A8_is)))
theorem fn20 : fnC Tryz.prog sp 20 = bodyC Tryz.prog Tryz.f20 aB := by kernel_rfl
theorem ntmps20 : Tryz.f20.ntmps = 50 := by kernel_rfl
theorem out20 : (outC Tryz.prog Tryz.f20.results).out A8L A8H = .some (.bool true) A8H := by kernel_rfl
theorem ev_succ {P : Program} {sp : Nat → Option FnC} {n f : Nat} {args : List AV} {H : Heap} : evFn P sp (n + 1) f args H = (fnC P sp f).run (evFn P sp n) args H := rfl
theorem body_ret {P : Program} {fn : Func} {c : Code} {cb : CB} {args : List AV} {H H1 : Heap} {L1 : Loc} {v : AV} {nt : Nat} (hn : fn.ntmps = nt) (ht : nt ≤ 256) (ha : Nat.ble (len args) nt = true)
    (h : (codeC P nt c).run cb (argsIn args L0) H = .ret L1 H1) (ho : (outC P fn.results).out L1 H1 = .some v H1) : (bodyC P fn c).run cb args H = .some v H1 := by
  rw [bodyC_run (by rw [hn]; exact ht), hn, ha, h]
  exact ho
theorem cb_is : cb = evFn Tryz.prog sp 58 := rfl
theorem run_is {c : Code} {L : Loc} {H : Heap} : (codeC Tryz.prog 50 c).run cb L H = run c L H := rfl
theorem run_of {a b : FnC} (h : a = b) {cb : CB} {args : List AV} {H : Heap} {r : Res} (h2 : b.run cb args H = r) : a.run cb args H = r := by rw [h]; exact h2
theorem ev_of {P : Program} {sp : Nat → Option FnC} {n f : Nat} {cb : CB} {args : List AV} {H : Heap} {r : Res} (hc : cb = evFn P sp n) (h : (fnC P sp f).run cb args H = r) : evFn P sp (n + 1) f args H = r := by rw [ev_succ, ← hc]; exact h
theorem awake_ev : evFn Tryz.prog sp (58 + 1) 20 [] H0 = .some (.bool true) A8H :=
  ev_of cb_is (run_of fn20 (body_ret ntmps20 (by decide) (by decide) (run_is.trans awake_run) out20))
theorem awake_true : awakeTrue := by
  intro w
  have hη : Leaves (fun _ => Value.bool true) := fun _ => ⟨rfl, rfl⟩
  refine (calls_of_ev mixed hη (fun base W => sp_ok hη) (fun x hx => by cases hx) awake_ev w).mono ?_
  rintro e w' ⟨⟨ρ', rfl⟩, hb⟩
  exact ⟨by simp [val], hb⟩
end Go.Proofs.YtacejlibeddkcaaGreat.Ev
