/- Contracts of (*pack.Writer).Num and Text, with their closures: what is laid behind a text, or the first error. It proves no statement. -/
import Derived.Test.YteoebfiacnploaaGreatDoorQFtypes
import Derived.Test.YteoebfiacnploaaGreatDoorQG7
namespace Go.Proofs.YteoebfiacnploaaGreatDoor.HRec
open Go.RowKit Go.Proofs.YteoebfiacnploaaGreatDoorW.PrintWords Go.Proofs.YteoebfiacnploaaGreatDoorW.PrintLast Go.Proofs.YteoebfiacnploaaGreatDoorW.PrintMore
set_option linter.unusedVariables false
set_option linter.unusedSimpArgs false
def layF (e : Int) (s : ByteArray) (t : Option (ByteArray × Int)) : Option (ByteArray × Int) := if e = 0 then t.bind fun p => if p.2 = 0 then some (p.1, 0) else some (⟨#[]⟩, p.2) else some (s, e)
def pack_Writer_Num.f (s : ByteArray) (e : Int) (n width : Int) : Option (ByteArray × Int) := layF e s (pack_Put.f 20 s n width)
def pack_Writer_Text.f (s : ByteArray) (e : Int) (t : ByteArray) : Option (ByteArray × Int) := layF e s (pack_Text.f 20 s t)
set_option maxHeartbeats 4000000 in
set_option maxRecDepth 100000 in
theorem num_fn (s : ByteArray) (n width : Int) (bn bw : Nat) (r1 : ByteArray) (r2 : Int) (w : World) (hn : w.cell? ⟨bn, 0, none⟩ = some (.int .i64 n)) (hw : w.cell? ⟨bw, 0, none⟩ = some (.int .i64 width)) (h : pack_Put.f 20 s n width = some (r1, r2)) :
    Calls Tryz.prog 98 #[.string s, .pointer (some ⟨bn, 0, none⟩), .pointer (some ⟨bw, 0, none⟩)] w fun e w' => e = .returned (.tuple #[.string r1, .int .i64 r2]) ∧ Below w.heap.size w w' := by
  have HH := Aside0.mk h; clear h
  go_enter Tryz.func98, Tryz.ntmps98
  go_wp2_with fail
  refine (pack_Put.calls 20 s n width r1 r2 _ HH.out).mono ?_
  rintro e w1 ⟨rfl, hb⟩
  have HB := Aside0.mk hb; clear hb hn hw
  go_wp2_with fail
  go_ret2
  exact ⟨rfl, HB.out⟩
set_option maxHeartbeats 4000000 in
set_option maxRecDepth 100000 in
theorem text_fn (s t : ByteArray) (bt : Nat) (r1 : ByteArray) (r2 : Int) (w : World) (hn : w.cell? ⟨bt, 0, none⟩ = some (.string t)) (h : pack_Text.f 20 s t = some (r1, r2)) :
    Calls Tryz.prog 114 #[.string s, .pointer (some ⟨bt, 0, none⟩)] w fun e w' => e = .returned (.tuple #[.string r1, .int .i64 r2]) ∧ Below w.heap.size w w' := by
  have HH := Aside0.mk h; clear h
  go_enter Tryz.func114, Tryz.ntmps114
  go_wp2_with fail
  refine (pack_Text.calls 20 s t r1 r2 _ HH.out).mono ?_
  rintro e w1 ⟨rfl, hb⟩
  have HB := Aside0.mk hb; clear hb hn
  go_wp2_with fail
  go_ret2
  exact ⟨rfl, HB.out⟩
set_option maxHeartbeats 4000000 in
set_option maxRecDepth 100000 in
theorem lay_num (g : Nat) (s0_0 : ByteArray) (s0_1 : Int) (n width : Int) (bn bw : Nat) (r1 : ByteArray) (r2 : Int) (w0 w : World) (hI : IsS114 w0 w g s0_0 s0_1) (hB : Below w0.heap.size w0 w) (hn : w.cell? ⟨bn, 0, none⟩ = some (.int .i64 n)) (hw : w.cell? ⟨bw, 0, none⟩ = some (.int .i64 width)) (h : layF s0_1 s0_0 (pack_Put.f 20 s0_0 n width) = some (r1, r2)) :
    Calls Tryz.prog 97 #[.pointer (some ⟨g, 0, none⟩), .func (.func 98) #[] #[.pointer (some ⟨bn, 0, none⟩), .pointer (some ⟨bw, 0, none⟩)]] w fun e w' => e = .returned (.tuple #[]) ∧ IsS114 w0 w' g r1 r2 ∧ Below w0.heap.size w0 w' ∧ KeepBut w w' g none := by
  have HI := Aside0.mk hI; have HB := Aside0.mk hB; have HK := Aside0.mk (KeepBut.refl w g none); have c0 := cellS114_0 hI.1; have c1 := cellS114_1 hI.1; have f0 := blk_frozen hI.1 0; have f1 := blk_frozen hI.1 1; clear hI hB
  unfold layF at h
  by_cases hc : s0_1 = 0
  · rw [if_pos hc] at h
    subst hc
    replace h := Option.bind_eq_some_iff.mp h
    obtain ⟨⟨t1, t2⟩, hp, hr⟩ := h
    have HP := Aside0.mk hp
    replace hr : (if t2 = 0 then some (t1, 0) else some ((⟨#[]⟩ : ByteArray), t2)) = some (r1, r2) := hr
    have HR := Aside0.mk hr; clear hp hr
    go_enter Tryz.func97, Tryz.ntmps97
    go_wp2_with fail
    refine (num_fn s0_0 n width bn bw t1 t2 _ hn hw HP.out).mono ?_
    rintro e w1 ⟨rfl, hb⟩
    have HI1 := Aside0.mk (IsS114.below HI.out hb); have HB1 := Aside0.mk (below_step HB.out hb); have HK1 := Aside0.mk (KeepBut.of_below hb g none); clear hb c0 c1 f0 f1 HI HB HK; have c0 := cellS114_0 HI1.out.1; have c1 := cellS114_1 HI1.out.1; have f0 := blk_frozen HI1.out.1 0; have f1 := blk_frozen HI1.out.1 1
    by_cases he : t2 = 0
    · have hr := HR.out
      rw [if_pos he] at hr
      simp only [Option.some.injEq, Prod.mk.injEq] at hr
      obtain ⟨rfl, rfl⟩ := hr
      subst he
      go_wp2_with fail
      first | go_end0 | ((try simp only [Exit.inBlock, Exit.then]); refine bodyPost_ret (results_none rfl _ _ _) rfl ?_)
      exact ⟨rfl, IsS114.set_0 HI1.out _, below_set HB1.out (IsS114.ge HI1.out), KeepBut.set_ HK1.out _ _⟩
    · have hr := HR.out
      rw [if_neg he] at hr
      simp only [Option.some.injEq, Prod.mk.injEq] at hr
      obtain ⟨rfl, rfl⟩ := hr
      have b0 : (t2 != 0) = true := bne_iff_ne.mpr he
      go_wp2_with fail
      first | go_end0 | ((try simp only [Exit.inBlock, Exit.then]); refine bodyPost_ret (results_none rfl _ _ _) rfl ?_)
      exact ⟨rfl, IsS114.set_1 (IsS114.set_0 HI1.out _) _, below_set (below_set HB1.out (IsS114.ge HI1.out)) (IsS114.ge HI1.out), KeepBut.set_ (KeepBut.set_ HK1.out _ _) _ _⟩
  · rw [if_neg hc] at h
    simp only [Option.some.injEq, Prod.mk.injEq] at h
    obtain ⟨rfl, rfl⟩ := h
    have b0 : (s0_1 != 0) = true := bne_iff_ne.mpr hc
    go_enter Tryz.func97, Tryz.ntmps97
    go_wp2_with fail
    first | go_end0 | ((try simp only [Exit.inBlock, Exit.then]); refine bodyPost_ret (results_none rfl _ _ _) rfl ?_)
    exact ⟨rfl, HI.out, HB.out, HK.out⟩
set_option maxHeartbeats 4000000 in
set_option maxRecDepth 100000 in
theorem lay_text (g : Nat) (s0_0 : ByteArray) (s0_1 : Int) (t : ByteArray) (bt : Nat) (r1 : ByteArray) (r2 : Int) (w0 w : World) (hI : IsS114 w0 w g s0_0 s0_1) (hB : Below w0.heap.size w0 w) (hn : w.cell? ⟨bt, 0, none⟩ = some (.string t)) (h : layF s0_1 s0_0 (pack_Text.f 20 s0_0 t) = some (r1, r2)) :
    Calls Tryz.prog 97 #[.pointer (some ⟨g, 0, none⟩), .func (.func 114) #[] #[.pointer (some ⟨bt, 0, none⟩)]] w fun e w' => e = .returned (.tuple #[]) ∧ IsS114 w0 w' g r1 r2 ∧ Below w0.heap.size w0 w' ∧ KeepBut w w' g none := by
  have HI := Aside0.mk hI; have HB := Aside0.mk hB; have HK := Aside0.mk (KeepBut.refl w g none); have c0 := cellS114_0 hI.1; have c1 := cellS114_1 hI.1; have f0 := blk_frozen hI.1 0; have f1 := blk_frozen hI.1 1; clear hI hB
  unfold layF at h
  by_cases hc : s0_1 = 0
  · rw [if_pos hc] at h
    subst hc
    replace h := Option.bind_eq_some_iff.mp h
    obtain ⟨⟨t1, t2⟩, hp, hr⟩ := h
    have HP := Aside0.mk hp
    replace hr : (if t2 = 0 then some (t1, 0) else some ((⟨#[]⟩ : ByteArray), t2)) = some (r1, r2) := hr
    have HR := Aside0.mk hr; clear hp hr
    go_enter Tryz.func97, Tryz.ntmps97
    go_wp2_with fail
    refine (text_fn s0_0 t bt t1 t2 _ hn HP.out).mono ?_
    rintro e w1 ⟨rfl, hb⟩
    have HI1 := Aside0.mk (IsS114.below HI.out hb); have HB1 := Aside0.mk (below_step HB.out hb); have HK1 := Aside0.mk (KeepBut.of_below hb g none); clear hb c0 c1 f0 f1 HI HB HK; have c0 := cellS114_0 HI1.out.1; have c1 := cellS114_1 HI1.out.1; have f0 := blk_frozen HI1.out.1 0; have f1 := blk_frozen HI1.out.1 1
    by_cases he : t2 = 0
    · have hr := HR.out
      rw [if_pos he] at hr
      simp only [Option.some.injEq, Prod.mk.injEq] at hr
      obtain ⟨rfl, rfl⟩ := hr
      subst he
      go_wp2_with fail
      first | go_end0 | ((try simp only [Exit.inBlock, Exit.then]); refine bodyPost_ret (results_none rfl _ _ _) rfl ?_)
      exact ⟨rfl, IsS114.set_0 HI1.out _, below_set HB1.out (IsS114.ge HI1.out), KeepBut.set_ HK1.out _ _⟩
    · have hr := HR.out
      rw [if_neg he] at hr
      simp only [Option.some.injEq, Prod.mk.injEq] at hr
      obtain ⟨rfl, rfl⟩ := hr
      have b0 : (t2 != 0) = true := bne_iff_ne.mpr he
      go_wp2_with fail
      first | go_end0 | ((try simp only [Exit.inBlock, Exit.then]); refine bodyPost_ret (results_none rfl _ _ _) rfl ?_)
      exact ⟨rfl, IsS114.set_1 (IsS114.set_0 HI1.out _) _, below_set (below_set HB1.out (IsS114.ge HI1.out)) (IsS114.ge HI1.out), KeepBut.set_ (KeepBut.set_ HK1.out _ _) _ _⟩
  · rw [if_neg hc] at h
    simp only [Option.some.injEq, Prod.mk.injEq] at h
    obtain ⟨rfl, rfl⟩ := h
    have b0 : (s0_1 != 0) = true := bne_iff_ne.mpr hc
    go_enter Tryz.func97, Tryz.ntmps97
    go_wp2_with fail
    first | go_end0 | ((try simp only [Exit.inBlock, Exit.then]); refine bodyPost_ret (results_none rfl _ _ _) rfl ?_)
    exact ⟨rfl, HI.out, HB.out, HK.out⟩
theorem keep_trans {w w1 w2 : World} {g : Nat} (h : KeepBut w w1 g none) (k : KeepBut w1 w2 g none) : KeepBut w w2 g none := h.trans k (.inl rfl)
set_option maxHeartbeats 4000000 in
set_option maxRecDepth 100000 in
theorem pack_Writer_Num.calls (g : Nat) (s0_0 : ByteArray) (s0_1 : Int) (a1 a2 : Int) (r1 : ByteArray) (r2 : Int) (w0 w : World) (hI : IsS114 w0 w g s0_0 s0_1) (hB : Below w0.heap.size w0 w) (h : pack_Writer_Num.f s0_0 s0_1 a1 a2 = some (r1, r2)) :
    Calls Tryz.prog 74 #[.pointer (some ⟨g, 0, none⟩), .int .i64 a1, .int .i64 a2] w fun e w' => e = .returned (.tuple #[]) ∧ IsS114 w0 w' g r1 r2 ∧ Below w0.heap.size w0 w' ∧ KeepBut w w' g none := by
  have HI := Aside0.mk hI; have HB := Aside0.mk hB; have HH := Aside0.mk h; clear hI hB h
  go_enter Tryz.func74, Tryz.ntmps74
  go_wp2_with fail
  refine (lay_num g s0_0 s0_1 a1 a2 w.heap.size (w.heap.size + 1) r1 r2 w0 _ ((HI.out.alloc _).alloc _) (below_alloc (below_alloc HB.out _) _) ?h1 ?h2 HH.out).mono ?_
  case h1 => go_simp
  case h2 => go_simp
  rintro e w1 ⟨rfl, h1, h2, h3⟩
  have H1 := Aside0.mk h1; have H2 := Aside0.mk h2; have H3 := Aside0.mk (keep_trans (keep_alloc (keep_alloc (KeepBut.refl w g none) _) _) h3); clear h1 h2 h3
  go_wp2_with fail
  first | go_end0 | ((try simp only [Exit.inBlock, Exit.then]); refine bodyPost_ret (results_none rfl _ _ _) rfl ?_)
  exact ⟨rfl, H1.out, H2.out, H3.out⟩
set_option maxHeartbeats 4000000 in
set_option maxRecDepth 100000 in
theorem pack_Writer_Text.calls (g : Nat) (s0_0 : ByteArray) (s0_1 : Int) (a1 : ByteArray) (r1 : ByteArray) (r2 : Int) (w0 w : World) (hI : IsS114 w0 w g s0_0 s0_1) (hB : Below w0.heap.size w0 w) (h : pack_Writer_Text.f s0_0 s0_1 a1 = some (r1, r2)) :
    Calls Tryz.prog 100 #[.pointer (some ⟨g, 0, none⟩), .string a1] w fun e w' => e = .returned (.tuple #[]) ∧ IsS114 w0 w' g r1 r2 ∧ Below w0.heap.size w0 w' ∧ KeepBut w w' g none := by
  have HI := Aside0.mk hI; have HB := Aside0.mk hB; have HH := Aside0.mk h; clear hI hB h
  go_enter Tryz.func100, Tryz.ntmps100
  go_wp2_with fail
  refine (lay_text g s0_0 s0_1 a1 w.heap.size r1 r2 w0 _ (HI.out.alloc _) (below_alloc HB.out _) ?h1 HH.out).mono ?_
  case h1 => go_simp
  rintro e w1 ⟨rfl, h1, h2, h3⟩
  have H1 := Aside0.mk h1; have H2 := Aside0.mk h2; have H3 := Aside0.mk (keep_trans (keep_alloc (KeepBut.refl w g none) _) h3); clear h1 h2 h3
  go_wp2_with fail
  first | go_end0 | ((try simp only [Exit.inBlock, Exit.then]); refine bodyPost_ret (results_none rfl _ _ _) rfl ?_)
  exact ⟨rfl, H1.out, H2.out, H3.out⟩
end Go.Proofs.YteoebfiacnploaaGreatDoor.HRec
