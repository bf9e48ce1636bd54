/- Texts of this proof, put together: HookRf, KRec, OpenRec, DiskA, Shelf. They prove no statement. -/
import Derived.Test.YteoebfiacnploaaGreatQG1
import Derived.Test.YteoebfiacnploaaGreatQHookRf0
import Derived.Test.YteoebfiacnploaaGreatQHookRf345
import Derived.Test.YteoebfiacnploaaGreatQOpen
import Derived.Test.YteoebfiacnploaaGreatQFtypes
import Derived.BigRegion
import Derived.Maps.Own
import Derived.Shelf.Strings.Builder1
import Derived.Shelf.Strings.Builder2
import Derived.Shelf.Strings.BuilderF
import Derived.Shelf.Strings.BuilderK
import Derived.Shelf.Strings.Repeat
import Derived.Test.YteoebfiacnploaaGreatProg
namespace Go.Proofs.YteoebfiacnploaaGreat.HRec
open Go.RowKit Go.Proofs.YteoebfiacnploaaGreatW.PrintWords Go.Proofs.YteoebfiacnploaaGreatW.PrintLast Go.Proofs.YteoebfiacnploaaGreatW.PrintMore
set_option linter.unusedVariables false
set_option linter.unusedSimpArgs false
/-- A record's fields. -/
abbrev RecT := Int × Int × Int × Int × Int × ByteArray × ByteArray × ByteArray × Int × List S144 × List S36 × Int × Int
def cleanR (x0 x1 x2 x3 x4 : Int) (k o n : ByteArray) (x8 : Int) (l9 : List S144) (l10 : List S36) (x11 x12 : Int) : RecT :=
  if x0 = 1 ∨ x0 = 2 then (x0, 0, 0, 0, 0, ⟨#[]⟩, ⟨#[]⟩, ⟨#[]⟩, 0, l9, [], 0, 0)
  else if x0 = 3 ∨ x0 = 4 ∨ x0 = 5 then (x0, x1, x2, x3, 0, k, if x0 = 3 then ⟨#[]⟩ else o, if x0 = 4 then ⟨#[]⟩ else n, 0, [], [], 0, 0)
  else if x0 = 6 then (x0, x1, x2, x3, x4, k, if x4 = 3 then ⟨#[]⟩ else o, if x4 = 4 then ⟨#[]⟩ else n, x8, [], [], 0, 0)
  else if x0 = 7 ∨ x0 = 8 then (x0, x1, x2, 0, 0, ⟨#[]⟩, ⟨#[]⟩, ⟨#[]⟩, 0, [], [], 0, 0)
  else if x0 = 9 then (x0, 0, 0, 0, 0, ⟨#[]⟩, ⟨#[]⟩, ⟨#[]⟩, 0, [], l10, 0, 0)
  else if x0 = 10 then (x0, 0, 0, 0, 0, ⟨#[]⟩, ⟨#[]⟩, ⟨#[]⟩, 0, [], [], x11, x12)
  else (x0, 0, 0, 0, 0, ⟨#[]⟩, ⟨#[]⟩, ⟨#[]⟩, 0, [], [], 0, 0)
/-- What a record's value is, of these fields. -/
def recV (v : Value) (w : World) (y : RecT) : Prop := ∃ A9 c9 A10 c10, v = .agg #[.int .i64 y.1, .int .i64 y.2.1, .int .i64 y.2.2.1, .int .i64 y.2.2.2.1, .int .i64 y.2.2.2.2.1, .string y.2.2.2.2.2.1, .string y.2.2.2.2.2.2.1, .string y.2.2.2.2.2.2.2.1, .int .i64 y.2.2.2.2.2.2.2.2.1, .slice A9 y.2.2.2.2.2.2.2.2.2.1.length c9, .slice A10 y.2.2.2.2.2.2.2.2.2.2.1.length c10, .int .i64 y.2.2.2.2.2.2.2.2.2.2.2.1, .int .i64 y.2.2.2.2.2.2.2.2.2.2.2.2] ∧
  Kd.C k144 w A9 y.2.2.2.2.2.2.2.2.2.1.length y.2.2.2.2.2.2.2.2.2.1 ∧ y.2.2.2.2.2.2.2.2.2.1.length ≤ c9 ∧ Kd.C k36 w A10 y.2.2.2.2.2.2.2.2.2.2.1.length y.2.2.2.2.2.2.2.2.2.2.1 ∧ y.2.2.2.2.2.2.2.2.2.2.1.length ≤ c10
theorem recV_mk (w : World) (y0 y1 y2 y3 y4 : Int) (k o n : ByteArray) (y8 : Int) (A9 : Option Addr) (c9 : Nat) (l9 : List S144) (A10 : Option Addr) (c10 : Nat) (l10 : List S36) (y11 y12 : Int) (h9 : Kd.C k144 w A9 l9.length l9) (hc9 : l9.length ≤ c9) (h10 : Kd.C k36 w A10 l10.length l10) (hc10 : l10.length ≤ c10) :
    recV (.agg #[.int .i64 y0, .int .i64 y1, .int .i64 y2, .int .i64 y3, .int .i64 y4, .string k, .string o, .string n, .int .i64 y8, .slice A9 l9.length c9, .slice A10 l10.length c10, .int .i64 y11, .int .i64 y12]) w (y0, y1, y2, y3, y4, k, o, n, y8, l9, l10, y11, y12) := ⟨A9, c9, A10, c10, rfl, h9, hc9, h10, hc10⟩
theorem rec_Clean.calls (x0 x1 x2 x3 x4 : Int) (k o n : ByteArray) (x8 : Int) (A9 : Option Addr) (c9 : Nat) (l9 : List S144) (A10 : Option Addr) (c10 : Nat) (l10 : List S36) (x11 x12 : Int) (w : World) (hr9 : Kd.C k144 w A9 l9.length l9) (hc9 : l9.length ≤ c9) (hr10 : Kd.C k36 w A10 l10.length l10) (hc10 : l10.length ≤ c10) :
    Calls Tryz.prog 39 #[.agg #[.int .i64 x0, .int .i64 x1, .int .i64 x2, .int .i64 x3, .int .i64 x4, .string k, .string o, .string n, .int .i64 x8, .slice A9 l9.length c9, .slice A10 l10.length c10, .int .i64 x11, .int .i64 x12]] w fun e w' => ∃ v, e = .returned v ∧ recV v w (cleanR x0 x1 x2 x3 x4 k o n x8 l9 l10 x11 x12) ∧ Below w.heap.size w w' := by
  have n9 : Kd.C k144 w none ([] : List S144).length [] := Kd.C_nil _ _
  have n10 : Kd.C k36 w none ([] : List S36).length [] := Kd.C_nil _ _
  have go : ∀ (u : Value) (y : RecT), recV u w y → cleanR x0 x1 x2 x3 x4 k o n x8 l9 l10 x11 x12 = y → Calls Tryz.prog 39 #[.agg #[.int .i64 x0, .int .i64 x1, .int .i64 x2, .int .i64 x3, .int .i64 x4, .string k, .string o, .string n, .int .i64 x8, .slice A9 l9.length c9, .slice A10 l10.length c10, .int .i64 x11, .int .i64 x12]] w (fun e w' => e = .returned u ∧ Below w.heap.size w w') → Calls Tryz.prog 39 #[.agg #[.int .i64 x0, .int .i64 x1, .int .i64 x2, .int .i64 x3, .int .i64 x4, .string k, .string o, .string n, .int .i64 x8, .slice A9 l9.length c9, .slice A10 l10.length c10, .int .i64 x11, .int .i64 x12]] w fun e w' => ∃ v, e = .returned v ∧ recV v w (cleanR x0 x1 x2 x3 x4 k o n x8 l9 l10 x11 x12) ∧ Below w.heap.size w w' := fun u y hu hy hc => hc.mono fun _ _ ⟨h1, h2⟩ => ⟨u, h1, by rw [hy]; exact hu, h2⟩
  rcases (show x0 = 1 ∨ x0 = 2 ∨ x0 = 3 ∨ x0 = 4 ∨ x0 = 5 ∨ x0 = 6 ∨ x0 = 7 ∨ x0 = 8 ∨ x0 = 9 ∨ x0 = 10 ∨ (x0 < 1 ∨ 10 < x0) by omega) with rfl | rfl | rfl | rfl | rfl | rfl | rfl | rfl | rfl | rfl | hk
  · exact go _ _ (recV_mk w _ _ _ _ _ _ _ _ _ _ _ _ _ _ _ _ _ hr9 hc9 n10 (Nat.zero_le 0)) rfl (clean_1 x1 x2 x3 x4 k o n x8 A9 c9 l9 A10 c10 l10 x11 x12 w)
  · exact go _ _ (recV_mk w _ _ _ _ _ _ _ _ _ _ _ _ _ _ _ _ _ hr9 hc9 n10 (Nat.zero_le 0)) rfl (clean_2 x1 x2 x3 x4 k o n x8 A9 c9 l9 A10 c10 l10 x11 x12 w)
  · exact go _ _ (recV_mk w _ _ _ _ _ _ _ _ _ _ _ _ _ _ _ _ _ n9 (Nat.zero_le 0) n10 (Nat.zero_le 0)) rfl (clean_3 x1 x2 x3 x4 k o n x8 A9 c9 l9 A10 c10 l10 x11 x12 w)
  · exact go _ _ (recV_mk w _ _ _ _ _ _ _ _ _ _ _ _ _ _ _ _ _ n9 (Nat.zero_le 0) n10 (Nat.zero_le 0)) rfl (clean_4 x1 x2 x3 x4 k o n x8 A9 c9 l9 A10 c10 l10 x11 x12 w)
  · exact go _ _ (recV_mk w _ _ _ _ _ _ _ _ _ _ _ _ _ _ _ _ _ n9 (Nat.zero_le 0) n10 (Nat.zero_le 0)) rfl (clean_5 x1 x2 x3 x4 k o n x8 A9 c9 l9 A10 c10 l10 x11 x12 w)
  · exact go _ _ (recV_mk w _ _ _ _ _ _ _ _ _ _ _ _ _ _ _ _ _ n9 (Nat.zero_le 0) n10 (Nat.zero_le 0)) rfl (clean_6 x1 x2 x3 x4 k o n x8 A9 c9 l9 A10 c10 l10 x11 x12 w)
  · exact go _ _ (recV_mk w _ _ _ _ _ _ _ _ _ _ _ _ _ _ _ _ _ n9 (Nat.zero_le 0) n10 (Nat.zero_le 0)) rfl (clean_7 x1 x2 x3 x4 k o n x8 A9 c9 l9 A10 c10 l10 x11 x12 w)
  · exact go _ _ (recV_mk w _ _ _ _ _ _ _ _ _ _ _ _ _ _ _ _ _ n9 (Nat.zero_le 0) n10 (Nat.zero_le 0)) rfl (clean_8 x1 x2 x3 x4 k o n x8 A9 c9 l9 A10 c10 l10 x11 x12 w)
  · exact go _ _ (recV_mk w _ _ _ _ _ _ _ _ _ _ _ _ _ _ _ _ _ n9 (Nat.zero_le 0) hr10 hc10) rfl (clean_9 x1 x2 x3 x4 k o n x8 A9 c9 l9 A10 c10 l10 x11 x12 w)
  · exact go _ _ (recV_mk w _ _ _ _ _ _ _ _ _ _ _ _ _ _ _ _ _ n9 (Nat.zero_le 0) n10 (Nat.zero_le 0)) rfl (clean_10 x1 x2 x3 x4 k o n x8 A9 c9 l9 A10 c10 l10 x11 x12 w)
  · exact go _ _ (recV_mk w _ _ _ _ _ _ _ _ _ _ _ _ _ _ _ _ _ n9 (Nat.zero_le 0) n10 (Nat.zero_le 0)) (by unfold cleanR; rw [if_neg (by omega), if_neg (by omega), if_neg (by omega), if_neg (by omega), if_neg (by omega), if_neg (by omega)]) (clean_0 x0 x1 x2 x3 x4 k o n x8 A9 c9 l9 A10 c10 l10 x11 x12 w hk)
end Go.Proofs.YteoebfiacnploaaGreat.HRec
namespace Go.Proofs.YteoebfiacnploaaGreat.HRec
open Go.RowKit Go.Proofs.YteoebfiacnploaaGreatW.PrintWords Go.Proofs.YteoebfiacnploaaGreatW.PrintLast Go.Proofs.YteoebfiacnploaaGreatW.PrintMore
set_option linter.unusedVariables false
set_option linter.unusedSimpArgs false
def kRec : Kd RecT := (Kd.pair (Kd.int .i64) (Kd.pair (Kd.int .i64) (Kd.pair (Kd.int .i64) (Kd.pair (Kd.int .i64) (Kd.pair (Kd.int .i64) (Kd.pair Kd.string (Kd.pair Kd.string (Kd.pair Kd.string (Kd.pair (Kd.int .i64) (Kd.pair (Kd.slice 144 k144) (Kd.pair (Kd.slice 36 k36) (Kd.pair (Kd.int .i64) (Kd.int .i64)))))))))))))
def zRec : RecT := (0, 0, 0, 0, 0, ⟨#[]⟩, ⟨#[]⟩, ⟨#[]⟩, 0, [], [], 0, 0)
def rd_Rec (xs : List RecT) (i : Int) : RecT := xs.getD i.toNat zRec
theorem kRec_open {w : World} {y : RecT} {cs : List Value} (h : kRec.K w y cs) : ∃ A9 c9 A10 c10, cs = [.int .i64 y.1, .int .i64 y.2.1, .int .i64 y.2.2.1, .int .i64 y.2.2.2.1, .int .i64 y.2.2.2.2.1, .string y.2.2.2.2.2.1, .string y.2.2.2.2.2.2.1, .string y.2.2.2.2.2.2.2.1, .int .i64 y.2.2.2.2.2.2.2.2.1, .slice A9 y.2.2.2.2.2.2.2.2.2.1.length c9, .slice A10 y.2.2.2.2.2.2.2.2.2.2.1.length c10, .int .i64 y.2.2.2.2.2.2.2.2.2.2.2.1, .int .i64 y.2.2.2.2.2.2.2.2.2.2.2.2] ∧ Kd.C k144 w A9 y.2.2.2.2.2.2.2.2.2.1.length y.2.2.2.2.2.2.2.2.2.1 ∧ y.2.2.2.2.2.2.2.2.2.1.length ≤ c9 ∧ Kd.C k36 w A10 y.2.2.2.2.2.2.2.2.2.2.1.length y.2.2.2.2.2.2.2.2.2.2.1 ∧ y.2.2.2.2.2.2.2.2.2.2.1.length ≤ c10 := by
  obtain ⟨_, _, rfl, rfl, ⟨_, _, rfl, rfl, ⟨_, _, rfl, rfl, ⟨_, _, rfl, rfl, ⟨_, _, rfl, rfl, ⟨_, _, rfl, rfl, ⟨_, _, rfl, rfl, ⟨_, _, rfl, rfl, ⟨_, _, rfl, rfl, ⟨_, _, rfl, ⟨A9, c9, rfl, hc9, h9⟩, ⟨_, _, rfl, ⟨A10, c10, rfl, hc10, h10⟩, ⟨_, _, rfl, rfl, rfl⟩⟩⟩⟩⟩⟩⟩⟩⟩⟩⟩⟩ := h
  exact ⟨A9, c9, A10, c10, rfl, h9, hc9, h10, hc10⟩
theorem at_Rec {w : World} {A : Option Addr} {n : Nat} {xs : List RecT} (h : Kd.C kRec w A n xs) (i : Int) (h0 : 0 ≤ i) (h1 : i < n) : ∃ ad A9 c9 A10 c10, A = some ad ∧ w.cell? (ad.add (i.toNat * 13)) = some (.int .i64 (rd_Rec xs i).1) ∧ w.cell? ⟨(ad.add (i.toNat * 13)).block, (ad.add (i.toNat * 13)).off + 1, none⟩ = some (.int .i64 (rd_Rec xs i).2.1) ∧ w.cell? ⟨(ad.add (i.toNat * 13)).block, (ad.add (i.toNat * 13)).off + 2, none⟩ = some (.int .i64 (rd_Rec xs i).2.2.1) ∧ w.cell? ⟨(ad.add (i.toNat * 13)).block, (ad.add (i.toNat * 13)).off + 3, none⟩ = some (.int .i64 (rd_Rec xs i).2.2.2.1) ∧ w.cell? ⟨(ad.add (i.toNat * 13)).block, (ad.add (i.toNat * 13)).off + 4, none⟩ = some (.int .i64 (rd_Rec xs i).2.2.2.2.1) ∧ w.cell? ⟨(ad.add (i.toNat * 13)).block, (ad.add (i.toNat * 13)).off + 5, none⟩ = some (.string (rd_Rec xs i).2.2.2.2.2.1) ∧ w.cell? ⟨(ad.add (i.toNat * 13)).block, (ad.add (i.toNat * 13)).off + 6, none⟩ = some (.string (rd_Rec xs i).2.2.2.2.2.2.1) ∧ w.cell? ⟨(ad.add (i.toNat * 13)).block, (ad.add (i.toNat * 13)).off + 7, none⟩ = some (.string (rd_Rec xs i).2.2.2.2.2.2.2.1) ∧ w.cell? ⟨(ad.add (i.toNat * 13)).block, (ad.add (i.toNat * 13)).off + 8, none⟩ = some (.int .i64 (rd_Rec xs i).2.2.2.2.2.2.2.2.1) ∧ w.cell? ⟨(ad.add (i.toNat * 13)).block, (ad.add (i.toNat * 13)).off + 9, none⟩ = some (.slice A9 (rd_Rec xs i).2.2.2.2.2.2.2.2.2.1.length c9) ∧ w.cell? ⟨(ad.add (i.toNat * 13)).block, (ad.add (i.toNat * 13)).off + 10, none⟩ = some (.slice A10 (rd_Rec xs i).2.2.2.2.2.2.2.2.2.2.1.length c10) ∧ w.cell? ⟨(ad.add (i.toNat * 13)).block, (ad.add (i.toNat * 13)).off + 11, none⟩ = some (.int .i64 (rd_Rec xs i).2.2.2.2.2.2.2.2.2.2.2.1) ∧ w.cell? ⟨(ad.add (i.toNat * 13)).block, (ad.add (i.toNat * 13)).off + 12, none⟩ = some (.int .i64 (rd_Rec xs i).2.2.2.2.2.2.2.2.2.2.2.2) ∧ Kd.C k144 w A9 (rd_Rec xs i).2.2.2.2.2.2.2.2.2.1.length (rd_Rec xs i).2.2.2.2.2.2.2.2.2.1 ∧ (rd_Rec xs i).2.2.2.2.2.2.2.2.2.1.length ≤ c9 ∧ Kd.C k36 w A10 (rd_Rec xs i).2.2.2.2.2.2.2.2.2.2.1.length (rd_Rec xs i).2.2.2.2.2.2.2.2.2.2.1 ∧ (rd_Rec xs i).2.2.2.2.2.2.2.2.2.2.1.length ≤ c10 := by
  obtain ⟨ad, c, e, _, hK, hc0⟩ := Kd.C_get h zRec i h0 h1
  have hc : ∀ j u, c[j]? = some u → w.cell? (ad.add (i.toNat * 13 + j)) = some u := hc0
  obtain ⟨A9, c9, A10, c10, rfl, q9, z9, q10, z10⟩ := kRec_open hK
  exact ⟨ad, A9, c9, A10, c10, e, hc 0 _ rfl, by rw [← add_field _ _ 1 (by omega)]; exact hc 1 _ rfl, by rw [← add_field _ _ 2 (by omega)]; exact hc 2 _ rfl, by rw [← add_field _ _ 3 (by omega)]; exact hc 3 _ rfl, by rw [← add_field _ _ 4 (by omega)]; exact hc 4 _ rfl, by rw [← add_field _ _ 5 (by omega)]; exact hc 5 _ rfl, by rw [← add_field _ _ 6 (by omega)]; exact hc 6 _ rfl, by rw [← add_field _ _ 7 (by omega)]; exact hc 7 _ rfl, by rw [← add_field _ _ 8 (by omega)]; exact hc 8 _ rfl, by rw [← add_field _ _ 9 (by omega)]; exact hc 9 _ rfl, by rw [← add_field _ _ 10 (by omega)]; exact hc 10 _ rfl, by rw [← add_field _ _ 11 (by omega)]; exact hc 11 _ rfl, by rw [← add_field _ _ 12 (by omega)]; exact hc 12 _ rfl, q9, z9, q10, z10⟩
end Go.Proofs.YteoebfiacnploaaGreat.HRec
namespace Go.Proofs.YteoebfiacnploaaGreat.HRec
open Go.RowKit Go.Deep Go.Proofs.YteoebfiacnploaaGreat.Open Go.Proofs.YteoebfiacnploaaGreatW.PrintWords Go.Proofs.YteoebfiacnploaaGreatW.PrintLast
set_option linter.unusedVariables false
set_option maxRecDepth 100000 in
theorem opens_144 {H : Type} {enc : TypeId × Value → H} {W : World} : Opens enc Tryz.prog W 144 k144 (fun _ => True) :=
  opens_imp (opens_struct (ok := fun x => (Lit.int .i64 x.1).wf = true ∧ x.2.size ≤ maxLen) (fun x : S144 => (x.f0, x.f1)) (fun p => ⟨p.1, p.2⟩) (fun _ => rfl) Tryz.underlying144 (by kernel_rfl) (opensF_cons rfl rfl rfl (opens_int Tryz.underlying3) (opensF_one rfl rfl (opens_string Tryz.underlying9)))) (fun _ _ => trivial)
set_option maxRecDepth 100000 in
theorem opens_36 {H : Type} {enc : TypeId × Value → H} {W : World} : Opens enc Tryz.prog W 36 k36 (fun _ => True) :=
  opens_imp (opens_struct (ok := fun x => (Lit.int .i64 x.1).wf = true ∧ (Lit.int .i64 x.2).wf = true) (fun x : S36 => (x.f0, x.f1)) (fun p => ⟨p.1, p.2⟩) (fun _ => rfl) Tryz.underlying36 (by kernel_rfl) (opensF_cons rfl rfl rfl (opens_int Tryz.underlying3) (opensF_one rfl rfl (opens_int Tryz.underlying3)))) (fun _ _ => trivial)
set_option maxRecDepth 100000 in
theorem opens_rec {H : Type} {enc : TypeId × Value → H} {W : World} : Opens enc Tryz.prog W 32 kRec (fun _ => True) := by
  have i := @opens_int H enc Tryz.prog W 3 .i64 Tryz.underlying3
  have s := @opens_string H enc Tryz.prog W 9 Tryz.underlying9
  have a := opens_imp (ok' := fun _ => True) (opens_slice Tryz.underlying30 (by kernel_rfl) (@opens_144 H enc W)) (fun _ _ => trivial)
  have b := opens_imp (ok' := fun _ => True) (opens_slice Tryz.underlying29 (by kernel_rfl) (@opens_36 H enc W)) (fun _ _ => trivial)
  have i := opens_imp (ok' := fun _ => True) i (fun _ _ => trivial)
  have s := opens_imp (ok' := fun _ => True) s (fun _ _ => trivial)
  refine opens_imp (opens_struct (fun x : RecT => x) (fun x => x) (fun _ => rfl) Tryz.underlying32 (by kernel_rfl) (opensF_cons rfl rfl rfl i (opensF_cons rfl rfl rfl i (opensF_cons rfl rfl rfl i (opensF_cons rfl rfl rfl i (opensF_cons rfl rfl rfl i (opensF_cons rfl rfl rfl s (opensF_cons rfl rfl rfl s (opensF_cons rfl rfl rfl s (opensF_cons rfl rfl rfl i (opensF_cons rfl rfl rfl a (opensF_cons rfl rfl rfl b (opensF_cons rfl rfl rfl i (opensF_one rfl rfl i)))))))))))))) (fun _ _ => trivial)
end Go.Proofs.YteoebfiacnploaaGreat.HRec
namespace Go.Proofs.YteoebfiacnploaaGreat.HRec
open Go.RowKit Go.Proofs.YteoebfiacnploaaGreatW.PrintWords Go.Proofs.YteoebfiacnploaaGreatW.PrintLast Go.Proofs.YteoebfiacnploaaGreatW.PrintMore
set_option linter.unusedVariables false
set_option linter.unusedSimpArgs false
theorem info9 : (Tryz.prog.info? 9).map (fun i => (i.zero, i.size, i.bytes)) = some (some (.string ⟨#[]⟩), 1, 16) := by kernel_rfl
/-- A disk at block d whose power is on and at which no act fails: its row of sectors, the map of what waits, how many acts there were. -/
def IsDisk (W : World) (d m : Nat) (A : Option Addr) (n c : Nat) (acts : Int) : Prop :=
  W.heap[d]? = some (.cells #[.slice A n c, .map (some m), .bool true, .int .i64 (-1), .int .u64 0, .int .i64 acts, .int .i64 0] 78 (0, 0))
section
variable {W W1 : World} {d m : Nat} {A : Option Addr} {n c : Nat} {acts : Int}
theorem IsDisk.below (h : IsDisk W d m A n c acts) (hb : Below W.heap.size W W1) : IsDisk W1 d m A n c acts := blk_below h hb
theorem IsDisk.at_0 (h : IsDisk W d m A n c acts) : W.cell? ⟨d, 0, none⟩ = some (.slice A n c) := (blk_cell h 0).trans rfl
theorem IsDisk.at_1 (h : IsDisk W d m A n c acts) : W.cell? ⟨d, 1, none⟩ = some (.map (some m)) := (blk_cell h 1).trans rfl
theorem IsDisk.at_2 (h : IsDisk W d m A n c acts) : W.cell? ⟨d, 2, none⟩ = some (.bool true) := (blk_cell h 2).trans rfl
theorem IsDisk.at_3 (h : IsDisk W d m A n c acts) : W.cell? ⟨d, 3, none⟩ = some (.int .i64 (-1)) := (blk_cell h 3).trans rfl
theorem IsDisk.at_5 (h : IsDisk W d m A n c acts) : W.cell? ⟨d, 5, none⟩ = some (.int .i64 acts) := (blk_cell h 5).trans rfl
theorem IsDisk.free (h : IsDisk W d m A n c acts) (i : Nat) : W.frozen? ⟨d, i, none⟩ = false := blk_frozen h i
theorem IsDisk.set_5 (h : IsDisk W d m A n c acts) (x : Int) : IsDisk (W.setCell ⟨d, 5, none⟩ (.int .i64 x)) d m A n c x := by unfold IsDisk; simpa using blk_set h 5 (.int .i64 x)
end
set_option maxHeartbeats 4000000 in
set_option maxRecDepth 100000 in
theorem disk_New (n : Int) (w : World) (h1 : 1 ≤ n) (h2 : n ≤ 8192) :
    Calls Tryz.prog 18 #[.int .i64 n] w fun e w' => ∃ d m A c, e = .returned (.tuple #[.pointer (some ⟨d, 0, none⟩), .int .i64 0]) ∧ IsDisk w' d m A n.toNat c 0 ∧ w'.heap[m]? = some (.map #[] 0) ∧ w.heap.size ≤ m ∧ m < d ∧
      Kd.R Kd.string 9 w' w.heap.size (fun k => k < m) (.slice A n.toNat c) (List.replicate n.toNat ⟨#[]⟩) ∧ Below w.heap.size w w' := by
  have b0 : decide (n < 1) = false := decide_eq_false (by omega)
  have b1 : decide (8192 < n) = false := decide_eq_false (by omega)
  have hmm := @run_makeMap Tryz.prog
  go_enter Tryz.func18, Tryz.ntmps18
  go_wp2_with ((with_reducible refine gate_dst (N := 11) rfl ?_); refine Kd.R_make Kd.string w.heap.size 9 rfl (N := 11) rfl 74 _ _ rfl n rfl rfl Tryz.underlying74 (.string ⟨#[]⟩) 16 info9 rfl (by decide) (by decide) ⟨#[]⟩ (ok := fun _ => True) (okp := fun _ => True) rfl (fun _ hk => hk) trivial (by omega) (by omega) (Below.refl _ _) (Nat.le_refl _) ?_; intro v1 w1 ho hb hg_ hnew_; have HO := Aside0.mk ho; have HB := Aside0.mk hb; clear ho hb hg_ hnew_; obtain ⟨A1, c1, rfl⟩ := Kd.R_slice HO.out)
  have hl : (List.replicate n.toNat (⟨#[]⟩ : ByteArray)).length = n.toNat := List.length_replicate
  have ho := HO.out
  rw [hl] at ho
  have hr := Kd.R_bound ho
  have hm : ∀ o1 o2 : Obj, ∀ k, k < w1.heap.size → ((w1.alloc o1).alloc o2).heap[k]? = w1.heap[k]? := fun o1 o2 k hk => (Below.heap_alloc _ _ k (by simp; omega)).trans (Below.heap_alloc _ _ k hk)
  go_ret2
  refine ⟨w1.heap.size + 1, w1.heap.size, A1, c1, rfl, ?_, ?_, HB.out.size, by omega, ?_, ?_⟩
  · have := blk_new (w1.alloc (.map #[] 0)) (.cells #[.slice A1 n.toNat c1, .map (some w1.heap.size), .bool true, .int .i64 (-1), .int .u64 0, .int .i64 0, .int .i64 0] 78)
    rw [show (w1.alloc (.map #[] 0)).heap.size = w1.heap.size + 1 from by simp] at this
    exact this
  · exact (Below.heap_alloc _ _ _ (by simp)).trans (heap_alloc_new w1 _)
  · exact Kd.R_move (Kd.R_mono hr (fun k hk => hk.2.2.1)) (fun k hk => hm _ _ k hk)
  · exact below_alloc (below_alloc HB.out _) _
set_option maxHeartbeats 4000000 in
theorem disk_none (d m : Nat) (A : Option Addr) (n c : Nat) (acts : Int) (w : World) (h : IsDisk w d m A n c acts) (hn : 0 < n) :
    Calls Tryz.prog 66 #[.pointer (some ⟨d, 0, none⟩)] w fun e w' => e = .returned (.bool false) ∧ w' = w := by
  have c0 := IsDisk.at_0 h
  have b0 : ((n : Int) == 0) = false := beq_eq_false_iff_ne.mpr (by omega)
  go_enter Tryz.func66, Tryz.ntmps66
  go_wp2_with fail
  go_ret
  exact ⟨by first | rfl | simp [b0], rfl⟩
set_option maxHeartbeats 4000000 in
theorem disk_Size (d m : Nat) (A : Option Addr) (n c : Nat) (acts : Int) (w : World) (h : IsDisk w d m A n c acts) (hn : 0 < n) :
    Calls Tryz.prog 43 #[.pointer (some ⟨d, 0, none⟩)] w fun e w' => e = .returned (.int .i64 n) ∧ w' = w := by
  have c0 := IsDisk.at_0 h; have H := Aside0.mk h
  go_enter Tryz.func43, Tryz.ntmps43
  go_wp2_with fail
  refine (disk_none d m A n c acts w H.out hn).mono ?_
  rintro e w1 ⟨rfl, rfl⟩
  go_wp2_with fail
  go_ret
  exact ⟨rfl, rfl⟩
set_option maxHeartbeats 4000000 in
theorem disk_check (d m : Nat) (A : Option Addr) (n c : Nat) (acts i : Int) (w : World) (h : IsDisk w d m A n c acts) (h0 : 0 ≤ i) (h1 : i < n) :
    Calls Tryz.prog 67 #[.pointer (some ⟨d, 0, none⟩), .int .i64 i] w fun e w' => e = .returned (.int .i64 0) ∧ w' = w := by
  have c0 := IsDisk.at_0 h; have c2 := IsDisk.at_2 h; have H := Aside0.mk h
  have b0 : decide (i < 0) = false := decide_eq_false (by omega)
  have b1 : decide ((n : Int) ≤ i) = false := decide_eq_false (by omega)
  go_enter Tryz.func67, Tryz.ntmps67
  go_wp2_with fail
  refine (disk_none d m A n c acts w H.out (by omega)).mono ?_
  rintro e w1 ⟨rfl, rfl⟩
  go_wp2_with fail
  go_ret
  exact ⟨rfl, rfl⟩
set_option maxHeartbeats 4000000 in
theorem disk_act (d m : Nat) (A : Option Addr) (n c : Nat) (acts : Int) (w0 w : World) (h : IsDisk w d m A n c acts) (hB : Below w0.heap.size w0 w) (hd : w0.heap.size ≤ d) (h0 : 0 ≤ acts) (h1 : acts ≤ 1000000) :
    Calls Tryz.prog 73 #[.pointer (some ⟨d, 0, none⟩)] w fun e w' => e = .returned (.int .i64 0) ∧ IsDisk w' d m A n c (acts + 1) ∧ Below w0.heap.size w0 w' ∧ KeepBut w w' d none := by
  have c3 := IsDisk.at_3 h; have c5 := IsDisk.at_5 h; have f5 := IsDisk.free h 5; have H := Aside0.mk h; have HB := Aside0.mk hB
  have hw : wrap64 (acts + 1) = acts + 1 := by unfold wrap64; omega
  clear hB
  go_enter Tryz.func73, Tryz.ntmps73
  go_wp2_with fail
  go_ret
  exact ⟨rfl, by first | exact IsDisk.set_5 H.out _ | (rw [hw]; exact IsDisk.set_5 H.out _), below_set HB.out hd, KeepBut.set_ (KeepBut.refl w d none) _ _⟩
end Go.Proofs.YteoebfiacnploaaGreat.HRec
namespace Go.Proofs
open Go.Shelf
def Tryz.lays169_ren : Go.Shelf.Ren := ⟨fun | 169 => 49 | n => n, fun | 70 => 92 | 9 => 9 | 0 => 0 | 72 => 95 | 37 => 93 | 127 => 126 | 3 => 3 | 5 => 5 | n => n, fun | n => n⟩
theorem Tryz.lays169 : Go.Proofs.Lays.n169 Tryz.prog Tryz.lays169_ren := {
  mixed := by kernel_rfl
  f169 := Tryz.func49.trans (congrArg some (by kernel_rfl))
  t0 := Tryz.underlying0
  a0 := Tryz.isAgg0
  z0 := Tryz.sizeOf0
  v0 := Tryz.zeroValue0
  t3 := Tryz.underlying3
  a3 := Tryz.isAgg3
  z3 := Tryz.sizeOf3
  v3 := Tryz.zeroValue3
  t9 := Tryz.underlying9
  a9 := Tryz.isAgg9
  z9 := Tryz.sizeOf9
  v9 := Tryz.zeroValue9
  t37 := Tryz.underlying93
  a37 := Tryz.isAgg93
  z37 := Tryz.sizeOf93
  v37 := Tryz.zeroValue93
  t70 := Tryz.underlying92
  a70 := Tryz.isAgg92
  z70 := Tryz.sizeOf92
  v70 := Tryz.zeroValue92
  t72 := Tryz.underlying95
  a72 := Tryz.isAgg95
  z72 := Tryz.sizeOf95
  v72 := Tryz.zeroValue95
  t127 := Tryz.underlying126
  a127 := Tryz.isAgg126
  z127 := Tryz.sizeOf126
  v127 := Tryz.zeroValue126 }
theorem Tryz.Builder_Extra_169 : Builder.Extra Tryz.prog Tryz.lays169_ren := {
  sizeBuilder := by kernel_rfl
  liesBuilder := by kernel_rfl
  t5 := Tryz.underlying5
  a5 := Tryz.isAgg5
  z5 := Tryz.sizeOf5
  v5 := Tryz.zeroValue5
  infoByte := by kernel_rfl
  cellsByte := by kernel_rfl
  sizeByte := by kernel_rfl
  neB5 := by decide }
open Go.RowKit in
open Go.RowKit in
theorem Tryz.Builder_String_empty (B b : Nat) (w : World) (h : Lib.IsBuilder 95 5 B b [] w) (hBw : B ≤ w.heap.size) :
    Calls Tryz.prog 49 #[.pointer (some ⟨b, 0, none⟩)] w fun e w' => e = .returned (.string ⟨#[]⟩) ∧ Below B w w' := Any.Builder_String_empty Tryz.lays169 Tryz.Builder_Extra_169 B b w h hBw
open Go.RowKit in
open Go.RowKit in
open Go.RowKit in
open Go.RowKit in
open Go.RowKit in
open Go.RowKit in
open Go.RowKit in
def Tryz.lays105_ren : Go.Shelf.Ren := ⟨fun | 105 => 93 | 212 => 106 | 99 => 107 | 165 => 108 | 166 => 47 | 170 => 109 | 169 => 49 | 263 => 113 | 264 => 114 | 206 => 115 | 240 => 71 | 241 => 116 | 276 => 94 | 277 => 118 | n => n, fun | 9 => 9 | 3 => 3 | 4 => 4 | 20 => 20 | 0 => 0 | 46 => 111 | 109 => 160 | 5 => 5 | 72 => 95 | 76 => 100 | 51 => 140 | 146 => 168 | 53 => 76 | 148 => 170 | 70 => 92 | 37 => 93 | 75 => 65 | 127 => 126 | 164 => 148 | 80 => 103 | n => n, fun | n => n⟩
theorem Tryz.lays105 : Go.Proofs.Lays.n105 Tryz.prog Tryz.lays105_ren := {
  mixed := by kernel_rfl
  f99 := Tryz.func107.trans (congrArg some (by kernel_rfl))
  f105 := Tryz.func93.trans (congrArg some (by kernel_rfl))
  f165 := Tryz.func108.trans (congrArg some (by kernel_rfl))
  f166 := Tryz.func47.trans (congrArg some (by kernel_rfl))
  f169 := Tryz.func49.trans (congrArg some (by kernel_rfl))
  f170 := Tryz.func109.trans (congrArg some (by kernel_rfl))
  f206 := Tryz.func115.trans (congrArg some (by kernel_rfl))
  f212 := Tryz.func106.trans (congrArg some (by kernel_rfl))
  f240 := Tryz.func71.trans (congrArg some (by kernel_rfl))
  f241 := Tryz.func116.trans (congrArg some (by kernel_rfl))
  f263 := Tryz.func113.trans (congrArg some (by kernel_rfl))
  f264 := Tryz.func114.trans (congrArg some (by kernel_rfl))
  f276 := Tryz.func94.trans (congrArg some (by kernel_rfl))
  f277 := Tryz.func118.trans (congrArg some (by kernel_rfl))
  t0 := Tryz.underlying0
  a0 := Tryz.isAgg0
  z0 := Tryz.sizeOf0
  v0 := Tryz.zeroValue0
  t3 := Tryz.underlying3
  a3 := Tryz.isAgg3
  z3 := Tryz.sizeOf3
  v3 := Tryz.zeroValue3
  t4 := Tryz.underlying4
  a4 := Tryz.isAgg4
  z4 := Tryz.sizeOf4
  v4 := Tryz.zeroValue4
  t5 := Tryz.underlying5
  a5 := Tryz.isAgg5
  z5 := Tryz.sizeOf5
  v5 := Tryz.zeroValue5
  t9 := Tryz.underlying9
  a9 := Tryz.isAgg9
  z9 := Tryz.sizeOf9
  v9 := Tryz.zeroValue9
  t20 := Tryz.underlying20
  a20 := Tryz.isAgg20
  z20 := Tryz.sizeOf20
  v20 := Tryz.zeroValue20
  t37 := Tryz.underlying93
  a37 := Tryz.isAgg93
  z37 := Tryz.sizeOf93
  v37 := Tryz.zeroValue93
  t46 := Tryz.underlying111
  a46 := Tryz.isAgg111
  z46 := Tryz.sizeOf111
  v46 := Tryz.zeroValue111
  t51 := Tryz.underlying140
  a51 := Tryz.isAgg140
  z51 := Tryz.sizeOf140
  v51 := Tryz.zeroValue140
  t53 := Tryz.underlying76
  a53 := Tryz.isAgg76
  z53 := Tryz.sizeOf76
  v53 := Tryz.zeroValue76
  t70 := Tryz.underlying92
  a70 := Tryz.isAgg92
  z70 := Tryz.sizeOf92
  v70 := Tryz.zeroValue92
  t72 := Tryz.underlying95
  a72 := Tryz.isAgg95
  z72 := Tryz.sizeOf95
  v72 := Tryz.zeroValue95
  t75 := Tryz.underlying65
  a75 := Tryz.isAgg65
  z75 := Tryz.sizeOf65
  v75 := Tryz.zeroValue65
  t76 := Tryz.underlying100
  a76 := Tryz.isAgg100
  z76 := Tryz.sizeOf100
  v76 := Tryz.zeroValue100
  t109 := Tryz.underlying160
  a109 := Tryz.isAgg160
  z109 := Tryz.sizeOf160
  v109 := Tryz.zeroValue160
  t127 := Tryz.underlying126
  a127 := Tryz.isAgg126
  z127 := Tryz.sizeOf126
  v127 := Tryz.zeroValue126
  t146 := Tryz.underlying168
  a146 := Tryz.isAgg168
  z146 := Tryz.sizeOf168
  v146 := Tryz.zeroValue168
  t148 := Tryz.underlying170
  a148 := Tryz.isAgg170
  z148 := Tryz.sizeOf170
  v148 := Tryz.zeroValue170
  t164 := Tryz.underlying148
  a164 := Tryz.isAgg148
  z164 := Tryz.sizeOf148
  v164 := Tryz.zeroValue148 }
theorem Tryz.Builder_Extra_105 : Builder.Extra Tryz.prog Tryz.lays105_ren := {
  sizeBuilder := by kernel_rfl
  liesBuilder := by kernel_rfl
  t5 := Tryz.underlying5
  a5 := Tryz.isAgg5
  z5 := Tryz.sizeOf5
  v5 := Tryz.zeroValue5
  infoByte := by kernel_rfl
  cellsByte := by kernel_rfl
  sizeByte := by kernel_rfl
  neB5 := by decide }
open Go.RowKit Go.Lib in
open Go.RowKit Go.Lib in
open Go.RowKit Go.Lib in
open Go.RowKit Go.Lib in
open Go.RowKit Go.Lib in
open Go.RowKit Go.Lib in
open Go.RowKit Go.Lib in
theorem Tryz.strings_Repeat (s : ByteArray) (c : Nat) (w : World) (hc : c ≤ 9223372036854775807) (hlen : s.size * c ≤ 140737488355328) :
    Calls Tryz.prog 93 #[.string s, .int .i64 c] w fun e w' => e = .returned (.string ⟨(Lib.repeatL s.data.toList c).toArray⟩) ∧ Below w.heap.size w w' := Any.strings_Repeat Tryz.lays105 Tryz.Builder_Extra_105 s c w hc hlen
end Go.Proofs
