/- Texts of this proof, put together: HookRf, KRec, RegKit, HookRi. They prove no statement. -/
import Derived.Test.YteoebfiacnploaaGreatQG1
import Derived.Test.YteoebfiacnploaaGreatQHookRf0
import Derived.Test.YteoebfiacnploaaGreatQHookRf345
import Derived.BigRegion
namespace Go.Proofs.YteoebfiacnploaaGreat.HRec
open Go.RowKit Go.Proofs.YteoebfiacnploaaGreatW.PrintWords Go.Proofs.YteoebfiacnploaaGreatW.PrintLast Go.Proofs.YteoebfiacnploaaGreatW.PrintMore
set_option linter.unusedVariables false
set_option linter.unusedSimpArgs false
/-- A record's fields. -/
abbrev RecT := Int × Int × Int × Int × Int × ByteArray × ByteArray × ByteArray × Int × List S144 × List S36 × Int × Int
def cleanR (x0 x1 x2 x3 x4 : Int) (k o n : ByteArray) (x8 : Int) (l9 : List S144) (l10 : List S36) (x11 x12 : Int) : RecT :=
  if x0 = 1 ∨ x0 = 2 then (x0, 0, 0, 0, 0, ⟨#[]⟩, ⟨#[]⟩, ⟨#[]⟩, 0, l9, [], 0, 0)
  else if x0 = 3 ∨ x0 = 4 ∨ x0 = 5 then (x0, x1, x2, x3, 0, k, if x0 = 3 then ⟨#[]⟩ else o, if x0 = 4 then ⟨#[]⟩ else n, 0, [], [], 0, 0)
  else if x0 = 6 then (x0, x1, x2, x3, x4, k, if x4 = 3 then ⟨#[]⟩ else o, if x4 = 4 then ⟨#[]⟩ else n, x8, [], [], 0, 0)
  else if x0 = 7 ∨ x0 = 8 then (x0, x1, x2, 0, 0, ⟨#[]⟩, ⟨#[]⟩, ⟨#[]⟩, 0, [], [], 0, 0)
  else if x0 = 9 then (x0, 0, 0, 0, 0, ⟨#[]⟩, ⟨#[]⟩, ⟨#[]⟩, 0, [], l10, 0, 0)
  else if x0 = 10 then (x0, 0, 0, 0, 0, ⟨#[]⟩, ⟨#[]⟩, ⟨#[]⟩, 0, [], [], x11, x12)
  else (x0, 0, 0, 0, 0, ⟨#[]⟩, ⟨#[]⟩, ⟨#[]⟩, 0, [], [], 0, 0)
/-- What a record's value is, of these fields. -/
def recV (v : Value) (w : World) (y : RecT) : Prop := ∃ A9 c9 A10 c10, v = .agg #[.int .i64 y.1, .int .i64 y.2.1, .int .i64 y.2.2.1, .int .i64 y.2.2.2.1, .int .i64 y.2.2.2.2.1, .string y.2.2.2.2.2.1, .string y.2.2.2.2.2.2.1, .string y.2.2.2.2.2.2.2.1, .int .i64 y.2.2.2.2.2.2.2.2.1, .slice A9 y.2.2.2.2.2.2.2.2.2.1.length c9, .slice A10 y.2.2.2.2.2.2.2.2.2.2.1.length c10, .int .i64 y.2.2.2.2.2.2.2.2.2.2.2.1, .int .i64 y.2.2.2.2.2.2.2.2.2.2.2.2] ∧
  Kd.C k144 w A9 y.2.2.2.2.2.2.2.2.2.1.length y.2.2.2.2.2.2.2.2.2.1 ∧ y.2.2.2.2.2.2.2.2.2.1.length ≤ c9 ∧ Kd.C k36 w A10 y.2.2.2.2.2.2.2.2.2.2.1.length y.2.2.2.2.2.2.2.2.2.2.1 ∧ y.2.2.2.2.2.2.2.2.2.2.1.length ≤ c10
theorem recV_mk (w : World) (y0 y1 y2 y3 y4 : Int) (k o n : ByteArray) (y8 : Int) (A9 : Option Addr) (c9 : Nat) (l9 : List S144) (A10 : Option Addr) (c10 : Nat) (l10 : List S36) (y11 y12 : Int) (h9 : Kd.C k144 w A9 l9.length l9) (hc9 : l9.length ≤ c9) (h10 : Kd.C k36 w A10 l10.length l10) (hc10 : l10.length ≤ c10) :
    recV (.agg #[.int .i64 y0, .int .i64 y1, .int .i64 y2, .int .i64 y3, .int .i64 y4, .string k, .string o, .string n, .int .i64 y8, .slice A9 l9.length c9, .slice A10 l10.length c10, .int .i64 y11, .int .i64 y12]) w (y0, y1, y2, y3, y4, k, o, n, y8, l9, l10, y11, y12) := ⟨A9, c9, A10, c10, rfl, h9, hc9, h10, hc10⟩
theorem rec_Clean.calls (x0 x1 x2 x3 x4 : Int) (k o n : ByteArray) (x8 : Int) (A9 : Option Addr) (c9 : Nat) (l9 : List S144) (A10 : Option Addr) (c10 : Nat) (l10 : List S36) (x11 x12 : Int) (w : World) (hr9 : Kd.C k144 w A9 l9.length l9) (hc9 : l9.length ≤ c9) (hr10 : Kd.C k36 w A10 l10.length l10) (hc10 : l10.length ≤ c10) :
    Calls Tryz.prog 39 #[.agg #[.int .i64 x0, .int .i64 x1, .int .i64 x2, .int .i64 x3, .int .i64 x4, .string k, .string o, .string n, .int .i64 x8, .slice A9 l9.length c9, .slice A10 l10.length c10, .int .i64 x11, .int .i64 x12]] w fun e w' => ∃ v, e = .returned v ∧ recV v w (cleanR x0 x1 x2 x3 x4 k o n x8 l9 l10 x11 x12) ∧ Below w.heap.size w w' := by
  have n9 : Kd.C k144 w none ([] : List S144).length [] := Kd.C_nil _ _
  have n10 : Kd.C k36 w none ([] : List S36).length [] := Kd.C_nil _ _
  have go : ∀ (u : Value) (y : RecT), recV u w y → cleanR x0 x1 x2 x3 x4 k o n x8 l9 l10 x11 x12 = y → Calls Tryz.prog 39 #[.agg #[.int .i64 x0, .int .i64 x1, .int .i64 x2, .int .i64 x3, .int .i64 x4, .string k, .string o, .string n, .int .i64 x8, .slice A9 l9.length c9, .slice A10 l10.length c10, .int .i64 x11, .int .i64 x12]] w (fun e w' => e = .returned u ∧ Below w.heap.size w w') → Calls Tryz.prog 39 #[.agg #[.int .i64 x0, .int .i64 x1, .int .i64 x2, .int .i64 x3, .int .i64 x4, .string k, .string o, .string n, .int .i64 x8, .slice A9 l9.length c9, .slice A10 l10.length c10, .int .i64 x11, .int .i64 x12]] w fun e w' => ∃ v, e = .returned v ∧ recV v w (cleanR x0 x1 x2 x3 x4 k o n x8 l9 l10 x11 x12) ∧ Below w.heap.size w w' := fun u y hu hy hc => hc.mono fun _ _ ⟨h1, h2⟩ => ⟨u, h1, by rw [hy]; exact hu, h2⟩
  rcases (show x0 = 1 ∨ x0 = 2 ∨ x0 = 3 ∨ x0 = 4 ∨ x0 = 5 ∨ x0 = 6 ∨ x0 = 7 ∨ x0 = 8 ∨ x0 = 9 ∨ x0 = 10 ∨ (x0 < 1 ∨ 10 < x0) by omega) with rfl | rfl | rfl | rfl | rfl | rfl | rfl | rfl | rfl | rfl | hk
  · exact go _ _ (recV_mk w _ _ _ _ _ _ _ _ _ _ _ _ _ _ _ _ _ hr9 hc9 n10 (Nat.zero_le 0)) rfl (clean_1 x1 x2 x3 x4 k o n x8 A9 c9 l9 A10 c10 l10 x11 x12 w)
  · exact go _ _ (recV_mk w _ _ _ _ _ _ _ _ _ _ _ _ _ _ _ _ _ hr9 hc9 n10 (Nat.zero_le 0)) rfl (clean_2 x1 x2 x3 x4 k o n x8 A9 c9 l9 A10 c10 l10 x11 x12 w)
  · exact go _ _ (recV_mk w _ _ _ _ _ _ _ _ _ _ _ _ _ _ _ _ _ n9 (Nat.zero_le 0) n10 (Nat.zero_le 0)) rfl (clean_3 x1 x2 x3 x4 k o n x8 A9 c9 l9 A10 c10 l10 x11 x12 w)
  · exact go _ _ (recV_mk w _ _ _ _ _ _ _ _ _ _ _ _ _ _ _ _ _ n9 (Nat.zero_le 0) n10 (Nat.zero_le 0)) rfl (clean_4 x1 x2 x3 x4 k o n x8 A9 c9 l9 A10 c10 l10 x11 x12 w)
  · exact go _ _ (recV_mk w _ _ _ _ _ _ _ _ _ _ _ _ _ _ _ _ _ n9 (Nat.zero_le 0) n10 (Nat.zero_le 0)) rfl (clean_5 x1 x2 x3 x4 k o n x8 A9 c9 l9 A10 c10 l10 x11 x12 w)
  · exact go _ _ (recV_mk w _ _ _ _ _ _ _ _ _ _ _ _ _ _ _ _ _ n9 (Nat.zero_le 0) n10 (Nat.zero_le 0)) rfl (clean_6 x1 x2 x3 x4 k o n x8 A9 c9 l9 A10 c10 l10 x11 x12 w)
  · exact go _ _ (recV_mk w _ _ _ _ _ _ _ _ _ _ _ _ _ _ _ _ _ n9 (Nat.zero_le 0) n10 (Nat.zero_le 0)) rfl (clean_7 x1 x2 x3 x4 k o n x8 A9 c9 l9 A10 c10 l10 x11 x12 w)
  · exact go _ _ (recV_mk w _ _ _ _ _ _ _ _ _ _ _ _ _ _ _ _ _ n9 (Nat.zero_le 0) n10 (Nat.zero_le 0)) rfl (clean_8 x1 x2 x3 x4 k o n x8 A9 c9 l9 A10 c10 l10 x11 x12 w)
  · exact go _ _ (recV_mk w _ _ _ _ _ _ _ _ _ _ _ _ _ _ _ _ _ n9 (Nat.zero_le 0) hr10 hc10) rfl (clean_9 x1 x2 x3 x4 k o n x8 A9 c9 l9 A10 c10 l10 x11 x12 w)
  · exact go _ _ (recV_mk w _ _ _ _ _ _ _ _ _ _ _ _ _ _ _ _ _ n9 (Nat.zero_le 0) n10 (Nat.zero_le 0)) rfl (clean_10 x1 x2 x3 x4 k o n x8 A9 c9 l9 A10 c10 l10 x11 x12 w)
  · exact go _ _ (recV_mk w _ _ _ _ _ _ _ _ _ _ _ _ _ _ _ _ _ n9 (Nat.zero_le 0) n10 (Nat.zero_le 0)) (by unfold cleanR; rw [if_neg (by omega), if_neg (by omega), if_neg (by omega), if_neg (by omega), if_neg (by omega), if_neg (by omega)]) (clean_0 x0 x1 x2 x3 x4 k o n x8 A9 c9 l9 A10 c10 l10 x11 x12 w hk)
end Go.Proofs.YteoebfiacnploaaGreat.HRec
namespace Go.Proofs.YteoebfiacnploaaGreat.HRec
open Go.RowKit Go.Proofs.YteoebfiacnploaaGreatW.PrintWords Go.Proofs.YteoebfiacnploaaGreatW.PrintLast Go.Proofs.YteoebfiacnploaaGreatW.PrintMore
set_option linter.unusedVariables false
set_option linter.unusedSimpArgs false
def kRec : Kd RecT := (Kd.pair (Kd.int .i64) (Kd.pair (Kd.int .i64) (Kd.pair (Kd.int .i64) (Kd.pair (Kd.int .i64) (Kd.pair (Kd.int .i64) (Kd.pair Kd.string (Kd.pair Kd.string (Kd.pair Kd.string (Kd.pair (Kd.int .i64) (Kd.pair (Kd.slice 144 k144) (Kd.pair (Kd.slice 36 k36) (Kd.pair (Kd.int .i64) (Kd.int .i64)))))))))))))
def zRec : RecT := (0, 0, 0, 0, 0, ⟨#[]⟩, ⟨#[]⟩, ⟨#[]⟩, 0, [], [], 0, 0)
def rd_Rec (xs : List RecT) (i : Int) : RecT := xs.getD i.toNat zRec
theorem kRec_open {w : World} {y : RecT} {cs : List Value} (h : kRec.K w y cs) : ∃ A9 c9 A10 c10, cs = [.int .i64 y.1, .int .i64 y.2.1, .int .i64 y.2.2.1, .int .i64 y.2.2.2.1, .int .i64 y.2.2.2.2.1, .string y.2.2.2.2.2.1, .string y.2.2.2.2.2.2.1, .string y.2.2.2.2.2.2.2.1, .int .i64 y.2.2.2.2.2.2.2.2.1, .slice A9 y.2.2.2.2.2.2.2.2.2.1.length c9, .slice A10 y.2.2.2.2.2.2.2.2.2.2.1.length c10, .int .i64 y.2.2.2.2.2.2.2.2.2.2.2.1, .int .i64 y.2.2.2.2.2.2.2.2.2.2.2.2] ∧ Kd.C k144 w A9 y.2.2.2.2.2.2.2.2.2.1.length y.2.2.2.2.2.2.2.2.2.1 ∧ y.2.2.2.2.2.2.2.2.2.1.length ≤ c9 ∧ Kd.C k36 w A10 y.2.2.2.2.2.2.2.2.2.2.1.length y.2.2.2.2.2.2.2.2.2.2.1 ∧ y.2.2.2.2.2.2.2.2.2.2.1.length ≤ c10 := by
  obtain ⟨_, _, rfl, rfl, ⟨_, _, rfl, rfl, ⟨_, _, rfl, rfl, ⟨_, _, rfl, rfl, ⟨_, _, rfl, rfl, ⟨_, _, rfl, rfl, ⟨_, _, rfl, rfl, ⟨_, _, rfl, rfl, ⟨_, _, rfl, rfl, ⟨_, _, rfl, ⟨A9, c9, rfl, hc9, h9⟩, ⟨_, _, rfl, ⟨A10, c10, rfl, hc10, h10⟩, ⟨_, _, rfl, rfl, rfl⟩⟩⟩⟩⟩⟩⟩⟩⟩⟩⟩⟩ := h
  exact ⟨A9, c9, A10, c10, rfl, h9, hc9, h10, hc10⟩
theorem kRec_mkM {w : World} {base : Nat} {ok : Nat → Prop} {y0 y1 y2 y3 y4 : Int} {y5 y6 y7 : ByteArray} {y8 : Int} {y9 : List S144} {y10 : List S36} {y11 y12 : Int} {v9 v10 : Value} (h9 : Kd.R k144 144 w base ok v9 y9) (h10 : Kd.R k36 36 w base ok v10 y10) : kRec.M w base ok (y0, y1, y2, y3, y4, y5, y6, y7, y8, y9, y10, y11, y12) [.int .i64 y0, .int .i64 y1, .int .i64 y2, .int .i64 y3, .int .i64 y4, .string y5, .string y6, .string y7, .int .i64 y8, v9, v10, .int .i64 y11, .int .i64 y12] :=
  ⟨[.int .i64 y0], [.int .i64 y1, .int .i64 y2, .int .i64 y3, .int .i64 y4, .string y5, .string y6, .string y7, .int .i64 y8, v9, v10, .int .i64 y11, .int .i64 y12], rfl, rfl, ⟨[.int .i64 y1], [.int .i64 y2, .int .i64 y3, .int .i64 y4, .string y5, .string y6, .string y7, .int .i64 y8, v9, v10, .int .i64 y11, .int .i64 y12], rfl, rfl, ⟨[.int .i64 y2], [.int .i64 y3, .int .i64 y4, .string y5, .string y6, .string y7, .int .i64 y8, v9, v10, .int .i64 y11, .int .i64 y12], rfl, rfl, ⟨[.int .i64 y3], [.int .i64 y4, .string y5, .string y6, .string y7, .int .i64 y8, v9, v10, .int .i64 y11, .int .i64 y12], rfl, rfl, ⟨[.int .i64 y4], [.string y5, .string y6, .string y7, .int .i64 y8, v9, v10, .int .i64 y11, .int .i64 y12], rfl, rfl, ⟨[.string y5], [.string y6, .string y7, .int .i64 y8, v9, v10, .int .i64 y11, .int .i64 y12], rfl, rfl, ⟨[.string y6], [.string y7, .int .i64 y8, v9, v10, .int .i64 y11, .int .i64 y12], rfl, rfl, ⟨[.string y7], [.int .i64 y8, v9, v10, .int .i64 y11, .int .i64 y12], rfl, rfl, ⟨[.int .i64 y8], [v9, v10, .int .i64 y11, .int .i64 y12], rfl, rfl, ⟨[v9], [v10, .int .i64 y11, .int .i64 y12], rfl, ⟨v9, rfl, h9⟩, ⟨[v10], [.int .i64 y11, .int .i64 y12], rfl, ⟨v10, rfl, h10⟩, ⟨[.int .i64 y11], [.int .i64 y12], rfl, rfl, rfl⟩⟩⟩⟩⟩⟩⟩⟩⟩⟩⟩⟩
theorem at_Rec {w : World} {A : Option Addr} {n : Nat} {xs : List RecT} (h : Kd.C kRec w A n xs) (i : Int) (h0 : 0 ≤ i) (h1 : i < n) : ∃ ad A9 c9 A10 c10, A = some ad ∧ w.cell? (ad.add (i.toNat * 13)) = some (.int .i64 (rd_Rec xs i).1) ∧ w.cell? ⟨(ad.add (i.toNat * 13)).block, (ad.add (i.toNat * 13)).off + 1, none⟩ = some (.int .i64 (rd_Rec xs i).2.1) ∧ w.cell? ⟨(ad.add (i.toNat * 13)).block, (ad.add (i.toNat * 13)).off + 2, none⟩ = some (.int .i64 (rd_Rec xs i).2.2.1) ∧ w.cell? ⟨(ad.add (i.toNat * 13)).block, (ad.add (i.toNat * 13)).off + 3, none⟩ = some (.int .i64 (rd_Rec xs i).2.2.2.1) ∧ w.cell? ⟨(ad.add (i.toNat * 13)).block, (ad.add (i.toNat * 13)).off + 4, none⟩ = some (.int .i64 (rd_Rec xs i).2.2.2.2.1) ∧ w.cell? ⟨(ad.add (i.toNat * 13)).block, (ad.add (i.toNat * 13)).off + 5, none⟩ = some (.string (rd_Rec xs i).2.2.2.2.2.1) ∧ w.cell? ⟨(ad.add (i.toNat * 13)).block, (ad.add (i.toNat * 13)).off + 6, none⟩ = some (.string (rd_Rec xs i).2.2.2.2.2.2.1) ∧ w.cell? ⟨(ad.add (i.toNat * 13)).block, (ad.add (i.toNat * 13)).off + 7, none⟩ = some (.string (rd_Rec xs i).2.2.2.2.2.2.2.1) ∧ w.cell? ⟨(ad.add (i.toNat * 13)).block, (ad.add (i.toNat * 13)).off + 8, none⟩ = some (.int .i64 (rd_Rec xs i).2.2.2.2.2.2.2.2.1) ∧ w.cell? ⟨(ad.add (i.toNat * 13)).block, (ad.add (i.toNat * 13)).off + 9, none⟩ = some (.slice A9 (rd_Rec xs i).2.2.2.2.2.2.2.2.2.1.length c9) ∧ w.cell? ⟨(ad.add (i.toNat * 13)).block, (ad.add (i.toNat * 13)).off + 10, none⟩ = some (.slice A10 (rd_Rec xs i).2.2.2.2.2.2.2.2.2.2.1.length c10) ∧ w.cell? ⟨(ad.add (i.toNat * 13)).block, (ad.add (i.toNat * 13)).off + 11, none⟩ = some (.int .i64 (rd_Rec xs i).2.2.2.2.2.2.2.2.2.2.2.1) ∧ w.cell? ⟨(ad.add (i.toNat * 13)).block, (ad.add (i.toNat * 13)).off + 12, none⟩ = some (.int .i64 (rd_Rec xs i).2.2.2.2.2.2.2.2.2.2.2.2) ∧ Kd.C k144 w A9 (rd_Rec xs i).2.2.2.2.2.2.2.2.2.1.length (rd_Rec xs i).2.2.2.2.2.2.2.2.2.1 ∧ (rd_Rec xs i).2.2.2.2.2.2.2.2.2.1.length ≤ c9 ∧ Kd.C k36 w A10 (rd_Rec xs i).2.2.2.2.2.2.2.2.2.2.1.length (rd_Rec xs i).2.2.2.2.2.2.2.2.2.2.1 ∧ (rd_Rec xs i).2.2.2.2.2.2.2.2.2.2.1.length ≤ c10 := by
  obtain ⟨ad, c, e, _, hK, hc0⟩ := Kd.C_get h zRec i h0 h1
  have hc : ∀ j u, c[j]? = some u → w.cell? (ad.add (i.toNat * 13 + j)) = some u := hc0
  obtain ⟨A9, c9, A10, c10, rfl, q9, z9, q10, z10⟩ := kRec_open hK
  exact ⟨ad, A9, c9, A10, c10, e, hc 0 _ rfl, by rw [← add_field _ _ 1 (by omega)]; exact hc 1 _ rfl, by rw [← add_field _ _ 2 (by omega)]; exact hc 2 _ rfl, by rw [← add_field _ _ 3 (by omega)]; exact hc 3 _ rfl, by rw [← add_field _ _ 4 (by omega)]; exact hc 4 _ rfl, by rw [← add_field _ _ 5 (by omega)]; exact hc 5 _ rfl, by rw [← add_field _ _ 6 (by omega)]; exact hc 6 _ rfl, by rw [← add_field _ _ 7 (by omega)]; exact hc 7 _ rfl, by rw [← add_field _ _ 8 (by omega)]; exact hc 8 _ rfl, by rw [← add_field _ _ 9 (by omega)]; exact hc 9 _ rfl, by rw [← add_field _ _ 10 (by omega)]; exact hc 10 _ rfl, by rw [← add_field _ _ 11 (by omega)]; exact hc 11 _ rfl, by rw [← add_field _ _ 12 (by omega)]; exact hc 12 _ rfl, q9, z9, q10, z10⟩
/-- A row is kept where another one, of another type, grows. -/
theorem R_apart {α β : Type} {a : Kd α} {b : Kd β} {e f base base' : Nat} {ok ok' : Nat → Prop} {W w1 : World} {va vb : Value} {xs : List α} {ys : List β} (ha : a.R e W base ok va xs) (hb : b.R f W base' ok' vb ys) (hg : W.grownBy w1 va.ownBlock) (hne : ∀ q, q ∈ f :: b.E → q ≠ e) : b.R f w1 base' ok' vb ys := by
  refine Kd.R_mono (Kd.R_move (Kd.R_bound hb) (fun k hk => ?_)) (fun k hk => hk.1)
  obtain ⟨_, _, hlt, q, hq, cells, hc⟩ := hk
  refine hg.block k hlt (fun he => ?_)
  obtain ⟨h0, inner, ho, hr⟩ := ha
  obtain ⟨cells2, hc2⟩ := own_typed ho k he.symm
  rw [hc] at hc2
  simp only [Option.some.injEq, Obj.cells.injEq] at hc2
  exact hne q hq hc2.2.1
theorem info32 : (Tryz.prog.info? 32).map (fun i => (i.zero, i.size, i.bytes)) = some (some (.agg #[.int .i64 0, .int .i64 0, .int .i64 0, .int .i64 0, .int .i64 0, .string ⟨#[]⟩, .string ⟨#[]⟩, .string ⟨#[]⟩, .int .i64 0, .slice none 0 0, .slice none 0 0, .int .i64 0, .int .i64 0]), 13, 160) := by kernel_rfl
theorem info3 : (Tryz.prog.info? 3).map (fun i => (i.zero, i.size, i.bytes)) = some (some (.int .i64 0), 1, 8) := by kernel_rfl
end Go.Proofs.YteoebfiacnploaaGreat.HRec
namespace Go.Proofs.YteoebfiacnploaaGreat.HRec
open Go.RowKit Go.Proofs.YteoebfiacnploaaGreatW.PrintWords Go.Proofs.YteoebfiacnploaaGreatW.PrintLast Go.Proofs.YteoebfiacnploaaGreatW.PrintMore
set_option linter.unusedVariables false
set_option linter.unusedSimpArgs false
theorem val_step {P : Program} {ops : Array Oper} {o : Oper} {a : Act} {Q : Exit → Act → World → Prop} {K : Act → World → Prop} {W w1 : World} {N : Option Tmp} (v : Value) (hw : Region.wanted o (yielded ops a.tmps) = true) (hd : o.dst = N) (hrun : (execOp a.eval o).run P W = .ok (.value v) w1) (h : K (a.put N v) w1) :
    if Region.wanted o (yielded ops a.tmps) = true then Oper.wp P o a W K Q else K (a.put N undef) W := by
  rw [if_pos hw]
  unfold Oper.wp
  rw [hrun]
  show K (a.put o.dst v) w1
  rw [hd]
  exact h
theorem app_step {P : Program} {ops : Array Oper} {o : Oper} {a : Act} {Q : Exit → Act → World → Prop} {Kc : Act → World → Prop} {α : Type} {N : Option Tmp} (d : Kd α) {w0 W : World} (base : Nat) (hw : Region.wanted o (yielded ops a.tmps) = true) (hd : o.dst = N) (s x : Operand) (t e : TypeId) (z : Value) (bytes : Nat)
    (ho : o.op = .call { callee := .builtin .append, args := #[s, x], argTypes := #[t, t] })
    (ht : P.underlying t = some (.slice e)) (hinfo : (P.info? e).map (fun i => (i.zero, i.size, i.bytes)) = some (some z, d.sz, bytes)) (hz : z.cells.size = d.sz) (hs0 : 0 < d.sz) (hb0 : 0 < bytes)
    (v : Value) (xs : List α) (p : α) (cs : List Value) (ok okp : Nat → Prop) (hs : a.eval s = v) (hx : a.eval x = .slice (some ⟨W.heap.size, 0, none⟩) 1 1) (hp : d.M W base okp p cs) (hokp : ∀ k, okp k → ok k ∧ some k ≠ v.ownBlock) (hfresh : ∀ k, W.heap.size ≤ k → ok k)
    (HO : d.R e W base ok v xs) (HB : Below base w0 W) (hbase : base ≤ W.heap.size) (hl : (xs.length + 1) * bytes ≤ 140737488355328)
    (h : ∀ v1 w1, d.R e w1 base ok v1 (xs ++ [p]) → Below base w0 w1 → W.grownBy w1 v.ownBlock → (v1.ownBlock = v.ownBlock ∨ ∃ b, v1.ownBlock = some b ∧ W.heap.size ≤ b) → Kc (a.put N v1) w1) :
    if Region.wanted o (yielded ops a.tmps) = true then Oper.wp P o a (W.alloc (.cells cs.toArray e)) Kc Q else Kc (a.put N undef) (W.alloc (.cells cs.toArray e)) := by
  subst hd
  exact Kd.R_append_step d base hw s x t e z bytes ho ht hinfo hz hs0 hb0 v xs p cs ok okp hs hx hp hokp hfresh HO HB hbase hl h
/-- A row is kept where another one grows whose block it has not. -/
theorem R_apartK {β : Type} {b : Kd β} {f base' : Nat} {ok' : Nat → Prop} {W w1 : World} {va vb : Value} {ys : List β} (hb : b.R f W base' ok' vb ys) (hg : W.grownBy w1 va.ownBlock) (hne : ∀ k, va.ownBlock = some k → ¬ ok' k) : b.R f w1 base' ok' vb ys := Kd.R_step hb (fun k ho hlt => hg.block k hlt (fun he => hne k he.symm ho))
theorem heap_of_cell {W : World} {p : Addr} {v : Value} (h : W.cell? p = some v) : p.block < W.heap.size := by
  by_cases hb : p.block < W.heap.size
  · exact hb
  · exfalso
    have hn : W.heap[p.block]? = none := Array.getElem?_eq_none (by omega)
    simp [World.cell?, hn] at h
theorem below_cell {W w' : World} {p : Addr} {v : Value} (hs : Below W.heap.size W w') (h : W.cell? p = some v) : w'.cell? p = some v := (Below.cell hs (heap_of_cell h)).trans h
theorem at_int {w : World} {A : Option Addr} {n : Nat} {xs : List Int} (h : (Kd.int .i64).C w A n xs) (i : Int) (h0 : 0 ≤ i) (h1 : i < n) : ∃ ad, A = some ad ∧ w.cell? (ad.add i.toNat) = some (.int .i64 (rdOf 0 xs i)) := by
  obtain ⟨ad, c, e, _, hK, hc0⟩ := Kd.C_get h 0 i h0 h1
  have hc : ∀ j u, c[j]? = some u → w.cell? (ad.add (i.toNat * 1 + j)) = some u := hc0
  have hK : c = [.int .i64 (rdOf 0 xs i)] := hK
  subst hK
  have := hc 0 _ rfl
  rw [Nat.mul_one] at this
  exact ⟨ad, e, this⟩
end Go.Proofs.YteoebfiacnploaaGreat.HRec
namespace Go.Proofs.YteoebfiacnploaaGreat.HRec
open Go.RowKit Go.Proofs.YteoebfiacnploaaGreatW.PrintWords Go.Proofs.YteoebfiacnploaaGreatW.PrintLast Go.Proofs.YteoebfiacnploaaGreatW.PrintMore
set_option linter.unusedVariables false
set_option linter.unusedSimpArgs false
/-- All blocks but two are as they were. -/
def KeepX (g h : Nat) (w W : World) : Prop := w.heap.size ≤ W.heap.size ∧ ∀ i, i < w.heap.size → i ≠ g → i ≠ h → W.heap[i]? = w.heap[i]?
theorem KeepX.refl (g h : Nat) (w : World) : KeepX g h w w := ⟨Nat.le_refl _, fun _ _ _ _ => rfl⟩
theorem KeepX.call {g h : Nat} {w W W1 : World} (k : KeepX g h w W) (q : KeepBut W W1 g none) : KeepX g h w W1 := ⟨Nat.le_trans k.1 q.1, fun i hi hg hh => (q.2 i (Nat.lt_of_lt_of_le hi k.1) hg (by simp)).trans (k.2 i hi hg hh)⟩
theorem KeepX.set {g h : Nat} {w W : World} (k : KeepX g h w W) (j : Nat) (u : Value) : KeepX g h w (W.setCell ⟨h, j, none⟩ u) := ⟨by simpa [World.setCell] using k.1, fun i hi hg hh => (Below.heap_setCell W ⟨h, j, none⟩ u i hh).trans (k.2 i hi hg hh)⟩
set_option maxHeartbeats 4000000 in
set_option maxRecDepth 100000 in
theorem rec_readChange.calls2 (kf : Nat) (g h : Nat) (s : ByteArray) (p e act : Int) (x0 x1 x2 x3 x4 : Int) (k o n : ByteArray) (x8 : Int) (vI vT : Value) (x11 x12 : Int) (pg : Int) (ky od nw : ByteArray) (s' : ByteArray) (p' e' : Int) (w0 w : World) (hI : IsS124 w0 w g s p e) (hR : IsRec w h x0 x1 x2 x3 x4 k o n x8 vI vT x11 x12) (hh : w0.heap.size ≤ h) (hB : Below w0.heap.size w0 w) (hf : rec_readChange.f kf s p e act o n = some (pg, ky, od, nw, s', p', e')) :
    Calls Tryz.prog 76 #[.pointer (some ⟨g, 0, none⟩), .pointer (some ⟨h, 0, none⟩), .int .i64 act] w fun x w' => x = .returned (.tuple #[]) ∧ IsS124 w0 w' g s' p' e' ∧ IsRec w' h x0 x1 x2 pg x4 ky od nw x8 vI vT x11 x12 ∧ Below w0.heap.size w0 w' ∧ KeepX g h w w' := by
  unfold rec_readChange.f at hf
  replace hf := Option.bind_eq_some_iff.mp hf
  obtain ⟨⟨a, a1, a2, a3⟩, ha, hf⟩ := hf
  replace hf := Option.bind_eq_some_iff.mp hf
  obtain ⟨⟨b, b1, b2, b3⟩, hb, hf⟩ := hf
  replace hf := Option.bind_eq_some_iff.mp hf
  obtain ⟨⟨c, c1, c2, c3⟩, hc, hf⟩ := hf
  replace hf := Option.bind_eq_some_iff.mp hf
  obtain ⟨⟨d, d1, d2, d3⟩, hd, hf⟩ := hf
  simp only [Option.some.injEq, Prod.mk.injEq] at hf
  obtain ⟨rfl, rfl, rfl, rfl, rfl, rfl, rfl⟩ := hf
  have I0 := Aside0.mk hI; have R0 := Aside0.mk hR; have B0 := Aside0.mk hB; have K0 := Aside0.mk (KeepX.refl g h w); have HH := Aside0.mk hh
  have HNE := Aside0.mk (show h ≠ g from fun e => IsS124.ne_blk hI hR (by decide) e.symm)
  have A := Aside0.mk ha; have BB := Aside0.mk hb; clear hI hR hh hB ha hb
  by_cases h3 : act = 3
  · have t3 : (act != 3) = false := bne_eq_false_iff_eq.mpr (by omega)
    have u3 : (act == 3) = true := beq_iff_eq.mpr (by omega)
    have t4 : (act != 4) = true := bne_iff_ne.mpr (by omega)
    have u4 : (act == 4) = false := beq_eq_false_iff_ne.mpr (by omega)
    rw [textIf, t3, if_neg (by simp)] at hc
    simp only [Option.some.injEq, Prod.mk.injEq] at hc
    obtain ⟨rfl, rfl, rfl, rfl⟩ := hc
    rw [textIf, t4, if_pos rfl] at hd
    have D := Aside0.mk hd; clear hd
    go_enter Tryz.func76, Tryz.ntmps76
    go_wp2_with fail
    refine (pack_Reader_Num.calls g s p e 2 a a1 a2 a3 w0 _ I0.out B0.out A.out).mono ?_
    rintro x w1 ⟨rfl, q1, q2, q3⟩
    have I1 := Aside0.mk q1; have B1 := Aside0.mk q2; have R1 := Aside0.mk (IsRec.keep R0.out q3 HNE.out); have K1 := Aside0.mk (KeepX.call K0.out q3); have cf1 := IsRec.cell_3 R1.out; have ff1 := IsRec.free R1.out 3; clear q1 q2 q3
    go_wp2_with fail
    refine (pack_Reader_Text.calls kf g a1 a2 a3 16 b b1 b2 b3 w0 _ (IsS124.far I1.out (fun e => HNE.out e.symm) _) (below_set B1.out HH.out) BB.out).mono ?_
    rintro x w2 ⟨rfl, q1, q2, q3⟩
    have I2 := Aside0.mk q1; have B2 := Aside0.mk q2; have R2 := Aside0.mk (IsRec.keep (IsRec.set_3 R1.out a) q3 HNE.out); have K2 := Aside0.mk (KeepX.call (KeepX.set K1.out 3 _) q3); have cf2 := IsRec.cell_5 R2.out; have ff2 := IsRec.free R2.out 5; clear q1 q2 q3
    go_wp2_with fail
    refine (pack_Reader_Text.calls kf g b1 b2 b3 32 d d1 d2 d3 w0 _ (IsS124.far I2.out (fun e => HNE.out e.symm) _) (below_set B2.out HH.out) D.out).mono ?_
    rintro x w4 ⟨rfl, q1, q2, q3⟩
    have I4 := Aside0.mk q1; have B4 := Aside0.mk q2; have R4 := Aside0.mk (IsRec.keep (IsRec.set_5 R2.out b) q3 HNE.out); have K4 := Aside0.mk (KeepX.call (KeepX.set K2.out 5 _) q3); have cf4 := IsRec.cell_7 R4.out; have ff4 := IsRec.free R4.out 7; clear q1 q2 q3
    go_wp2_with fail
    first | go_end0 | ((try simp only [Exit.inBlock, Exit.then]); refine bodyPost_ret (results_none rfl _ _ _) rfl ?_)
    exact ⟨rfl, IsS124.far I4.out (fun e => HNE.out e.symm) _, (IsRec.set_7 R4.out d), below_set B4.out HH.out, (KeepX.set K4.out 7 _)⟩
  · by_cases h4 : act = 4
    · have t3 : (act != 3) = true := bne_iff_ne.mpr (by omega)
      have u3 : (act == 3) = false := beq_eq_false_iff_ne.mpr (by omega)
      have t4 : (act != 4) = false := bne_eq_false_iff_eq.mpr (by omega)
      have u4 : (act == 4) = true := beq_iff_eq.mpr (by omega)
      rw [textIf, t3, if_pos rfl] at hc
      have C := Aside0.mk hc; clear hc
      rw [textIf, t4, if_neg (by simp)] at hd
      simp only [Option.some.injEq, Prod.mk.injEq] at hd
      obtain ⟨rfl, rfl, rfl, rfl⟩ := hd
      go_enter Tryz.func76, Tryz.ntmps76
      go_wp2_with fail
      refine (pack_Reader_Num.calls g s p e 2 a a1 a2 a3 w0 _ I0.out B0.out A.out).mono ?_
      rintro x w1 ⟨rfl, q1, q2, q3⟩
      have I1 := Aside0.mk q1; have B1 := Aside0.mk q2; have R1 := Aside0.mk (IsRec.keep R0.out q3 HNE.out); have K1 := Aside0.mk (KeepX.call K0.out q3); have cf1 := IsRec.cell_3 R1.out; have ff1 := IsRec.free R1.out 3; clear q1 q2 q3
      go_wp2_with fail
      refine (pack_Reader_Text.calls kf g a1 a2 a3 16 b b1 b2 b3 w0 _ (IsS124.far I1.out (fun e => HNE.out e.symm) _) (below_set B1.out HH.out) BB.out).mono ?_
      rintro x w2 ⟨rfl, q1, q2, q3⟩
      have I2 := Aside0.mk q1; have B2 := Aside0.mk q2; have R2 := Aside0.mk (IsRec.keep (IsRec.set_3 R1.out a) q3 HNE.out); have K2 := Aside0.mk (KeepX.call (KeepX.set K1.out 3 _) q3); have cf2 := IsRec.cell_5 R2.out; have ff2 := IsRec.free R2.out 5; clear q1 q2 q3
      go_wp2_with fail
      refine (pack_Reader_Text.calls kf g b1 b2 b3 32 c c1 c2 c3 w0 _ (IsS124.far I2.out (fun e => HNE.out e.symm) _) (below_set B2.out HH.out) C.out).mono ?_
      rintro x w3 ⟨rfl, q1, q2, q3⟩
      have I3 := Aside0.mk q1; have B3 := Aside0.mk q2; have R3 := Aside0.mk (IsRec.keep (IsRec.set_5 R2.out b) q3 HNE.out); have K3 := Aside0.mk (KeepX.call (KeepX.set K2.out 5 _) q3); have cf3 := IsRec.cell_6 R3.out; have ff3 := IsRec.free R3.out 6; clear q1 q2 q3
      go_wp2_with fail
      first | go_end0 | ((try simp only [Exit.inBlock, Exit.then]); refine bodyPost_ret (results_none rfl _ _ _) rfl ?_)
      exact ⟨rfl, IsS124.far I3.out (fun e => HNE.out e.symm) _, (IsRec.set_6 R3.out c), below_set B3.out HH.out, (KeepX.set K3.out 6 _)⟩
    · have t3 : (act != 3) = true := bne_iff_ne.mpr (by omega)
      have u3 : (act == 3) = false := beq_eq_false_iff_ne.mpr (by omega)
      have t4 : (act != 4) = true := bne_iff_ne.mpr (by omega)
      have u4 : (act == 4) = false := beq_eq_false_iff_ne.mpr (by omega)
      rw [textIf, t3, if_pos rfl] at hc
      have C := Aside0.mk hc; clear hc
      rw [textIf, t4, if_pos rfl] at hd
      have D := Aside0.mk hd; clear hd
      go_enter Tryz.func76, Tryz.ntmps76
      go_wp2_with fail
      refine (pack_Reader_Num.calls g s p e 2 a a1 a2 a3 w0 _ I0.out B0.out A.out).mono ?_
      rintro x w1 ⟨rfl, q1, q2, q3⟩
      have I1 := Aside0.mk q1; have B1 := Aside0.mk q2; have R1 := Aside0.mk (IsRec.keep R0.out q3 HNE.out); have K1 := Aside0.mk (KeepX.call K0.out q3); have cf1 := IsRec.cell_3 R1.out; have ff1 := IsRec.free R1.out 3; clear q1 q2 q3
      go_wp2_with fail
      refine (pack_Reader_Text.calls kf g a1 a2 a3 16 b b1 b2 b3 w0 _ (IsS124.far I1.out (fun e => HNE.out e.symm) _) (below_set B1.out HH.out) BB.out).mono ?_
      rintro x w2 ⟨rfl, q1, q2, q3⟩
      have I2 := Aside0.mk q1; have B2 := Aside0.mk q2; have R2 := Aside0.mk (IsRec.keep (IsRec.set_3 R1.out a) q3 HNE.out); have K2 := Aside0.mk (KeepX.call (KeepX.set K1.out 3 _) q3); have cf2 := IsRec.cell_5 R2.out; have ff2 := IsRec.free R2.out 5; clear q1 q2 q3
      go_wp2_with fail
      refine (pack_Reader_Text.calls kf g b1 b2 b3 32 c c1 c2 c3 w0 _ (IsS124.far I2.out (fun e => HNE.out e.symm) _) (below_set B2.out HH.out) C.out).mono ?_
      rintro x w3 ⟨rfl, q1, q2, q3⟩
      have I3 := Aside0.mk q1; have B3 := Aside0.mk q2; have R3 := Aside0.mk (IsRec.keep (IsRec.set_5 R2.out b) q3 HNE.out); have K3 := Aside0.mk (KeepX.call (KeepX.set K2.out 5 _) q3); have cf3 := IsRec.cell_6 R3.out; have ff3 := IsRec.free R3.out 6; clear q1 q2 q3
      go_wp2_with fail
      refine (pack_Reader_Text.calls kf g c1 c2 c3 32 d d1 d2 d3 w0 _ (IsS124.far I3.out (fun e => HNE.out e.symm) _) (below_set B3.out HH.out) D.out).mono ?_
      rintro x w4 ⟨rfl, q1, q2, q3⟩
      have I4 := Aside0.mk q1; have B4 := Aside0.mk q2; have R4 := Aside0.mk (IsRec.keep (IsRec.set_6 R3.out c) q3 HNE.out); have K4 := Aside0.mk (KeepX.call (KeepX.set K3.out 6 _) q3); have cf4 := IsRec.cell_7 R4.out; have ff4 := IsRec.free R4.out 7; clear q1 q2 q3
      go_wp2_with fail
      first | go_end0 | ((try simp only [Exit.inBlock, Exit.then]); refine bodyPost_ret (results_none rfl _ _ _) rfl ?_)
      exact ⟨rfl, IsS124.far I4.out (fun e => HNE.out e.symm) _, (IsRec.set_7 R4.out d), below_set B4.out HH.out, (KeepX.set K4.out 7 _)⟩
end Go.Proofs.YteoebfiacnploaaGreat.HRec
