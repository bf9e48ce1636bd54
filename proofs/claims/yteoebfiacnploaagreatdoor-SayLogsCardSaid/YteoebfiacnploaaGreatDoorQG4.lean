/- Texts of this proof, put together: HookRf, KRec, RegKit, SayX. They prove no statement. -/
import Derived.Test.YteoebfiacnploaaGreatDoorQG3
import Derived.Test.YteoebfiacnploaaGreatDoorQHookRf0
import Derived.Test.YteoebfiacnploaaGreatDoorQHookRf345
import Derived.BigRegion
import Derived.Test.YteoebfiacnploaaGreatDoorQSayB
namespace Go.Proofs.YteoebfiacnploaaGreatDoor.HRec
open Go.RowKit Go.Proofs.YteoebfiacnploaaGreatDoorW.PrintWords Go.Proofs.YteoebfiacnploaaGreatDoorW.PrintLast Go.Proofs.YteoebfiacnploaaGreatDoorW.PrintMore
set_option linter.unusedVariables false
set_option linter.unusedSimpArgs false
/-- A record's fields. -/
abbrev RecT := Int × Int × Int × Int × Int × ByteArray × ByteArray × ByteArray × Int × List S144 × List S36 × Int × Int
def cleanR (x0 x1 x2 x3 x4 : Int) (k o n : ByteArray) (x8 : Int) (l9 : List S144) (l10 : List S36) (x11 x12 : Int) : RecT :=
  if x0 = 1 ∨ x0 = 2 then (x0, 0, 0, 0, 0, ⟨#[]⟩, ⟨#[]⟩, ⟨#[]⟩, 0, l9, [], 0, 0)
  else if x0 = 3 ∨ x0 = 4 ∨ x0 = 5 then (x0, x1, x2, x3, 0, k, if x0 = 3 then ⟨#[]⟩ else o, if x0 = 4 then ⟨#[]⟩ else n, 0, [], [], 0, 0)
  else if x0 = 6 then (x0, x1, x2, x3, x4, k, if x4 = 3 then ⟨#[]⟩ else o, if x4 = 4 then ⟨#[]⟩ else n, x8, [], [], 0, 0)
  else if x0 = 7 ∨ x0 = 8 then (x0, x1, x2, 0, 0, ⟨#[]⟩, ⟨#[]⟩, ⟨#[]⟩, 0, [], [], 0, 0)
  else if x0 = 9 then (x0, 0, 0, 0, 0, ⟨#[]⟩, ⟨#[]⟩, ⟨#[]⟩, 0, [], l10, 0, 0)
  else if x0 = 10 then (x0, 0, 0, 0, 0, ⟨#[]⟩, ⟨#[]⟩, ⟨#[]⟩, 0, [], [], x11, x12)
  else (x0, 0, 0, 0, 0, ⟨#[]⟩, ⟨#[]⟩, ⟨#[]⟩, 0, [], [], 0, 0)
/-- What a record's value is, of these fields. -/
def recV (v : Value) (w : World) (y : RecT) : Prop := ∃ A9 c9 A10 c10, v = .agg #[.int .i64 y.1, .int .i64 y.2.1, .int .i64 y.2.2.1, .int .i64 y.2.2.2.1, .int .i64 y.2.2.2.2.1, .string y.2.2.2.2.2.1, .string y.2.2.2.2.2.2.1, .string y.2.2.2.2.2.2.2.1, .int .i64 y.2.2.2.2.2.2.2.2.1, .slice A9 y.2.2.2.2.2.2.2.2.2.1.length c9, .slice A10 y.2.2.2.2.2.2.2.2.2.2.1.length c10, .int .i64 y.2.2.2.2.2.2.2.2.2.2.2.1, .int .i64 y.2.2.2.2.2.2.2.2.2.2.2.2] ∧
  Kd.C k144 w A9 y.2.2.2.2.2.2.2.2.2.1.length y.2.2.2.2.2.2.2.2.2.1 ∧ y.2.2.2.2.2.2.2.2.2.1.length ≤ c9 ∧ Kd.C k36 w A10 y.2.2.2.2.2.2.2.2.2.2.1.length y.2.2.2.2.2.2.2.2.2.2.1 ∧ y.2.2.2.2.2.2.2.2.2.2.1.length ≤ c10
theorem recV_mk (w : World) (y0 y1 y2 y3 y4 : Int) (k o n : ByteArray) (y8 : Int) (A9 : Option Addr) (c9 : Nat) (l9 : List S144) (A10 : Option Addr) (c10 : Nat) (l10 : List S36) (y11 y12 : Int) (h9 : Kd.C k144 w A9 l9.length l9) (hc9 : l9.length ≤ c9) (h10 : Kd.C k36 w A10 l10.length l10) (hc10 : l10.length ≤ c10) :
    recV (.agg #[.int .i64 y0, .int .i64 y1, .int .i64 y2, .int .i64 y3, .int .i64 y4, .string k, .string o, .string n, .int .i64 y8, .slice A9 l9.length c9, .slice A10 l10.length c10, .int .i64 y11, .int .i64 y12]) w (y0, y1, y2, y3, y4, k, o, n, y8, l9, l10, y11, y12) := ⟨A9, c9, A10, c10, rfl, h9, hc9, h10, hc10⟩
theorem rec_Clean.calls (x0 x1 x2 x3 x4 : Int) (k o n : ByteArray) (x8 : Int) (A9 : Option Addr) (c9 : Nat) (l9 : List S144) (A10 : Option Addr) (c10 : Nat) (l10 : List S36) (x11 x12 : Int) (w : World) (hr9 : Kd.C k144 w A9 l9.length l9) (hc9 : l9.length ≤ c9) (hr10 : Kd.C k36 w A10 l10.length l10) (hc10 : l10.length ≤ c10) :
    Calls Tryz.prog 34 #[.agg #[.int .i64 x0, .int .i64 x1, .int .i64 x2, .int .i64 x3, .int .i64 x4, .string k, .string o, .string n, .int .i64 x8, .slice A9 l9.length c9, .slice A10 l10.length c10, .int .i64 x11, .int .i64 x12]] w fun e w' => ∃ v, e = .returned v ∧ recV v w (cleanR x0 x1 x2 x3 x4 k o n x8 l9 l10 x11 x12) ∧ Below w.heap.size w w' := by
  have n9 : Kd.C k144 w none ([] : List S144).length [] := Kd.C_nil _ _
  have n10 : Kd.C k36 w none ([] : List S36).length [] := Kd.C_nil _ _
  have go : ∀ (u : Value) (y : RecT), recV u w y → cleanR x0 x1 x2 x3 x4 k o n x8 l9 l10 x11 x12 = y → Calls Tryz.prog 34 #[.agg #[.int .i64 x0, .int .i64 x1, .int .i64 x2, .int .i64 x3, .int .i64 x4, .string k, .string o, .string n, .int .i64 x8, .slice A9 l9.length c9, .slice A10 l10.length c10, .int .i64 x11, .int .i64 x12]] w (fun e w' => e = .returned u ∧ Below w.heap.size w w') → Calls Tryz.prog 34 #[.agg #[.int .i64 x0, .int .i64 x1, .int .i64 x2, .int .i64 x3, .int .i64 x4, .string k, .string o, .string n, .int .i64 x8, .slice A9 l9.length c9, .slice A10 l10.length c10, .int .i64 x11, .int .i64 x12]] w fun e w' => ∃ v, e = .returned v ∧ recV v w (cleanR x0 x1 x2 x3 x4 k o n x8 l9 l10 x11 x12) ∧ Below w.heap.size w w' := fun u y hu hy hc => hc.mono fun _ _ ⟨h1, h2⟩ => ⟨u, h1, by rw [hy]; exact hu, h2⟩
  rcases (show x0 = 1 ∨ x0 = 2 ∨ x0 = 3 ∨ x0 = 4 ∨ x0 = 5 ∨ x0 = 6 ∨ x0 = 7 ∨ x0 = 8 ∨ x0 = 9 ∨ x0 = 10 ∨ (x0 < 1 ∨ 10 < x0) by omega) with rfl | rfl | rfl | rfl | rfl | rfl | rfl | rfl | rfl | rfl | hk
  · exact go _ _ (recV_mk w _ _ _ _ _ _ _ _ _ _ _ _ _ _ _ _ _ hr9 hc9 n10 (Nat.zero_le 0)) rfl (clean_1 x1 x2 x3 x4 k o n x8 A9 c9 l9 A10 c10 l10 x11 x12 w)
  · exact go _ _ (recV_mk w _ _ _ _ _ _ _ _ _ _ _ _ _ _ _ _ _ hr9 hc9 n10 (Nat.zero_le 0)) rfl (clean_2 x1 x2 x3 x4 k o n x8 A9 c9 l9 A10 c10 l10 x11 x12 w)
  · exact go _ _ (recV_mk w _ _ _ _ _ _ _ _ _ _ _ _ _ _ _ _ _ n9 (Nat.zero_le 0) n10 (Nat.zero_le 0)) rfl (clean_3 x1 x2 x3 x4 k o n x8 A9 c9 l9 A10 c10 l10 x11 x12 w)
  · exact go _ _ (recV_mk w _ _ _ _ _ _ _ _ _ _ _ _ _ _ _ _ _ n9 (Nat.zero_le 0) n10 (Nat.zero_le 0)) rfl (clean_4 x1 x2 x3 x4 k o n x8 A9 c9 l9 A10 c10 l10 x11 x12 w)
  · exact go _ _ (recV_mk w _ _ _ _ _ _ _ _ _ _ _ _ _ _ _ _ _ n9 (Nat.zero_le 0) n10 (Nat.zero_le 0)) rfl (clean_5 x1 x2 x3 x4 k o n x8 A9 c9 l9 A10 c10 l10 x11 x12 w)
  · exact go _ _ (recV_mk w _ _ _ _ _ _ _ _ _ _ _ _ _ _ _ _ _ n9 (Nat.zero_le 0) n10 (Nat.zero_le 0)) rfl (clean_6 x1 x2 x3 x4 k o n x8 A9 c9 l9 A10 c10 l10 x11 x12 w)
  · exact go _ _ (recV_mk w _ _ _ _ _ _ _ _ _ _ _ _ _ _ _ _ _ n9 (Nat.zero_le 0) n10 (Nat.zero_le 0)) rfl (clean_7 x1 x2 x3 x4 k o n x8 A9 c9 l9 A10 c10 l10 x11 x12 w)
  · exact go _ _ (recV_mk w _ _ _ _ _ _ _ _ _ _ _ _ _ _ _ _ _ n9 (Nat.zero_le 0) n10 (Nat.zero_le 0)) rfl (clean_8 x1 x2 x3 x4 k o n x8 A9 c9 l9 A10 c10 l10 x11 x12 w)
  · exact go _ _ (recV_mk w _ _ _ _ _ _ _ _ _ _ _ _ _ _ _ _ _ n9 (Nat.zero_le 0) hr10 hc10) rfl (clean_9 x1 x2 x3 x4 k o n x8 A9 c9 l9 A10 c10 l10 x11 x12 w)
  · exact go _ _ (recV_mk w _ _ _ _ _ _ _ _ _ _ _ _ _ _ _ _ _ n9 (Nat.zero_le 0) n10 (Nat.zero_le 0)) rfl (clean_10 x1 x2 x3 x4 k o n x8 A9 c9 l9 A10 c10 l10 x11 x12 w)
  · exact go _ _ (recV_mk w _ _ _ _ _ _ _ _ _ _ _ _ _ _ _ _ _ n9 (Nat.zero_le 0) n10 (Nat.zero_le 0)) (by unfold cleanR; rw [if_neg (by omega), if_neg (by omega), if_neg (by omega), if_neg (by omega), if_neg (by omega), if_neg (by omega)]) (clean_0 x0 x1 x2 x3 x4 k o n x8 A9 c9 l9 A10 c10 l10 x11 x12 w hk)
end Go.Proofs.YteoebfiacnploaaGreatDoor.HRec
namespace Go.Proofs.YteoebfiacnploaaGreatDoor.HRec
open Go.RowKit Go.Proofs.YteoebfiacnploaaGreatDoorW.PrintWords Go.Proofs.YteoebfiacnploaaGreatDoorW.PrintLast Go.Proofs.YteoebfiacnploaaGreatDoorW.PrintMore
set_option linter.unusedVariables false
set_option linter.unusedSimpArgs false
def kRec : Kd RecT := (Kd.pair (Kd.int .i64) (Kd.pair (Kd.int .i64) (Kd.pair (Kd.int .i64) (Kd.pair (Kd.int .i64) (Kd.pair (Kd.int .i64) (Kd.pair Kd.string (Kd.pair Kd.string (Kd.pair Kd.string (Kd.pair (Kd.int .i64) (Kd.pair (Kd.slice 53 k144) (Kd.pair (Kd.slice 55 k36) (Kd.pair (Kd.int .i64) (Kd.int .i64)))))))))))))
def zRec : RecT := (0, 0, 0, 0, 0, ⟨#[]⟩, ⟨#[]⟩, ⟨#[]⟩, 0, [], [], 0, 0)
def rd_Rec (xs : List RecT) (i : Int) : RecT := xs.getD i.toNat zRec
theorem kRec_open {w : World} {y : RecT} {cs : List Value} (h : kRec.K w y cs) : ∃ A9 c9 A10 c10, cs = [.int .i64 y.1, .int .i64 y.2.1, .int .i64 y.2.2.1, .int .i64 y.2.2.2.1, .int .i64 y.2.2.2.2.1, .string y.2.2.2.2.2.1, .string y.2.2.2.2.2.2.1, .string y.2.2.2.2.2.2.2.1, .int .i64 y.2.2.2.2.2.2.2.2.1, .slice A9 y.2.2.2.2.2.2.2.2.2.1.length c9, .slice A10 y.2.2.2.2.2.2.2.2.2.2.1.length c10, .int .i64 y.2.2.2.2.2.2.2.2.2.2.2.1, .int .i64 y.2.2.2.2.2.2.2.2.2.2.2.2] ∧ Kd.C k144 w A9 y.2.2.2.2.2.2.2.2.2.1.length y.2.2.2.2.2.2.2.2.2.1 ∧ y.2.2.2.2.2.2.2.2.2.1.length ≤ c9 ∧ Kd.C k36 w A10 y.2.2.2.2.2.2.2.2.2.2.1.length y.2.2.2.2.2.2.2.2.2.2.1 ∧ y.2.2.2.2.2.2.2.2.2.2.1.length ≤ c10 := by
  obtain ⟨_, _, rfl, rfl, ⟨_, _, rfl, rfl, ⟨_, _, rfl, rfl, ⟨_, _, rfl, rfl, ⟨_, _, rfl, rfl, ⟨_, _, rfl, rfl, ⟨_, _, rfl, rfl, ⟨_, _, rfl, rfl, ⟨_, _, rfl, rfl, ⟨_, _, rfl, ⟨A9, c9, rfl, hc9, h9⟩, ⟨_, _, rfl, ⟨A10, c10, rfl, hc10, h10⟩, ⟨_, _, rfl, rfl, rfl⟩⟩⟩⟩⟩⟩⟩⟩⟩⟩⟩⟩ := h
  exact ⟨A9, c9, A10, c10, rfl, h9, hc9, h10, hc10⟩
theorem kRec_mkM {w : World} {base : Nat} {ok : Nat → Prop} {y0 y1 y2 y3 y4 : Int} {y5 y6 y7 : ByteArray} {y8 : Int} {y9 : List S144} {y10 : List S36} {y11 y12 : Int} {v9 v10 : Value} (h9 : Kd.R k144 53 w base ok v9 y9) (h10 : Kd.R k36 55 w base ok v10 y10) : kRec.M w base ok (y0, y1, y2, y3, y4, y5, y6, y7, y8, y9, y10, y11, y12) [.int .i64 y0, .int .i64 y1, .int .i64 y2, .int .i64 y3, .int .i64 y4, .string y5, .string y6, .string y7, .int .i64 y8, v9, v10, .int .i64 y11, .int .i64 y12] :=
  ⟨[.int .i64 y0], [.int .i64 y1, .int .i64 y2, .int .i64 y3, .int .i64 y4, .string y5, .string y6, .string y7, .int .i64 y8, v9, v10, .int .i64 y11, .int .i64 y12], rfl, rfl, ⟨[.int .i64 y1], [.int .i64 y2, .int .i64 y3, .int .i64 y4, .string y5, .string y6, .string y7, .int .i64 y8, v9, v10, .int .i64 y11, .int .i64 y12], rfl, rfl, ⟨[.int .i64 y2], [.int .i64 y3, .int .i64 y4, .string y5, .string y6, .string y7, .int .i64 y8, v9, v10, .int .i64 y11, .int .i64 y12], rfl, rfl, ⟨[.int .i64 y3], [.int .i64 y4, .string y5, .string y6, .string y7, .int .i64 y8, v9, v10, .int .i64 y11, .int .i64 y12], rfl, rfl, ⟨[.int .i64 y4], [.string y5, .string y6, .string y7, .int .i64 y8, v9, v10, .int .i64 y11, .int .i64 y12], rfl, rfl, ⟨[.string y5], [.string y6, .string y7, .int .i64 y8, v9, v10, .int .i64 y11, .int .i64 y12], rfl, rfl, ⟨[.string y6], [.string y7, .int .i64 y8, v9, v10, .int .i64 y11, .int .i64 y12], rfl, rfl, ⟨[.string y7], [.int .i64 y8, v9, v10, .int .i64 y11, .int .i64 y12], rfl, rfl, ⟨[.int .i64 y8], [v9, v10, .int .i64 y11, .int .i64 y12], rfl, rfl, ⟨[v9], [v10, .int .i64 y11, .int .i64 y12], rfl, ⟨v9, rfl, h9⟩, ⟨[v10], [.int .i64 y11, .int .i64 y12], rfl, ⟨v10, rfl, h10⟩, ⟨[.int .i64 y11], [.int .i64 y12], rfl, rfl, rfl⟩⟩⟩⟩⟩⟩⟩⟩⟩⟩⟩⟩
theorem at_Rec {w : World} {A : Option Addr} {n : Nat} {xs : List RecT} (h : Kd.C kRec w A n xs) (i : Int) (h0 : 0 ≤ i) (h1 : i < n) : ∃ ad A9 c9 A10 c10, A = some ad ∧ w.cell? (ad.add (i.toNat * 13)) = some (.int .i64 (rd_Rec xs i).1) ∧ w.cell? ⟨(ad.add (i.toNat * 13)).block, (ad.add (i.toNat * 13)).off + 1, none⟩ = some (.int .i64 (rd_Rec xs i).2.1) ∧ w.cell? ⟨(ad.add (i.toNat * 13)).block, (ad.add (i.toNat * 13)).off + 2, none⟩ = some (.int .i64 (rd_Rec xs i).2.2.1) ∧ w.cell? ⟨(ad.add (i.toNat * 13)).block, (ad.add (i.toNat * 13)).off + 3, none⟩ = some (.int .i64 (rd_Rec xs i).2.2.2.1) ∧ w.cell? ⟨(ad.add (i.toNat * 13)).block, (ad.add (i.toNat * 13)).off + 4, none⟩ = some (.int .i64 (rd_Rec xs i).2.2.2.2.1) ∧ w.cell? ⟨(ad.add (i.toNat * 13)).block, (ad.add (i.toNat * 13)).off + 5, none⟩ = some (.string (rd_Rec xs i).2.2.2.2.2.1) ∧ w.cell? ⟨(ad.add (i.toNat * 13)).block, (ad.add (i.toNat * 13)).off + 6, none⟩ = some (.string (rd_Rec xs i).2.2.2.2.2.2.1) ∧ w.cell? ⟨(ad.add (i.toNat * 13)).block, (ad.add (i.toNat * 13)).off + 7, none⟩ = some (.string (rd_Rec xs i).2.2.2.2.2.2.2.1) ∧ w.cell? ⟨(ad.add (i.toNat * 13)).block, (ad.add (i.toNat * 13)).off + 8, none⟩ = some (.int .i64 (rd_Rec xs i).2.2.2.2.2.2.2.2.1) ∧ w.cell? ⟨(ad.add (i.toNat * 13)).block, (ad.add (i.toNat * 13)).off + 9, none⟩ = some (.slice A9 (rd_Rec xs i).2.2.2.2.2.2.2.2.2.1.length c9) ∧ w.cell? ⟨(ad.add (i.toNat * 13)).block, (ad.add (i.toNat * 13)).off + 10, none⟩ = some (.slice A10 (rd_Rec xs i).2.2.2.2.2.2.2.2.2.2.1.length c10) ∧ w.cell? ⟨(ad.add (i.toNat * 13)).block, (ad.add (i.toNat * 13)).off + 11, none⟩ = some (.int .i64 (rd_Rec xs i).2.2.2.2.2.2.2.2.2.2.2.1) ∧ w.cell? ⟨(ad.add (i.toNat * 13)).block, (ad.add (i.toNat * 13)).off + 12, none⟩ = some (.int .i64 (rd_Rec xs i).2.2.2.2.2.2.2.2.2.2.2.2) ∧ Kd.C k144 w A9 (rd_Rec xs i).2.2.2.2.2.2.2.2.2.1.length (rd_Rec xs i).2.2.2.2.2.2.2.2.2.1 ∧ (rd_Rec xs i).2.2.2.2.2.2.2.2.2.1.length ≤ c9 ∧ Kd.C k36 w A10 (rd_Rec xs i).2.2.2.2.2.2.2.2.2.2.1.length (rd_Rec xs i).2.2.2.2.2.2.2.2.2.2.1 ∧ (rd_Rec xs i).2.2.2.2.2.2.2.2.2.2.1.length ≤ c10 := by
  obtain ⟨ad, c, e, _, hK, hc0⟩ := Kd.C_get h zRec i h0 h1
  have hc : ∀ j u, c[j]? = some u → w.cell? (ad.add (i.toNat * 13 + j)) = some u := hc0
  obtain ⟨A9, c9, A10, c10, rfl, q9, z9, q10, z10⟩ := kRec_open hK
  exact ⟨ad, A9, c9, A10, c10, e, hc 0 _ rfl, by rw [← add_field _ _ 1 (by omega)]; exact hc 1 _ rfl, by rw [← add_field _ _ 2 (by omega)]; exact hc 2 _ rfl, by rw [← add_field _ _ 3 (by omega)]; exact hc 3 _ rfl, by rw [← add_field _ _ 4 (by omega)]; exact hc 4 _ rfl, by rw [← add_field _ _ 5 (by omega)]; exact hc 5 _ rfl, by rw [← add_field _ _ 6 (by omega)]; exact hc 6 _ rfl, by rw [← add_field _ _ 7 (by omega)]; exact hc 7 _ rfl, by rw [← add_field _ _ 8 (by omega)]; exact hc 8 _ rfl, by rw [← add_field _ _ 9 (by omega)]; exact hc 9 _ rfl, by rw [← add_field _ _ 10 (by omega)]; exact hc 10 _ rfl, by rw [← add_field _ _ 11 (by omega)]; exact hc 11 _ rfl, by rw [← add_field _ _ 12 (by omega)]; exact hc 12 _ rfl, q9, z9, q10, z10⟩
/-- A row is kept where another one, of another type, grows. -/
theorem R_apart {α β : Type} {a : Kd α} {b : Kd β} {e f base base' : Nat} {ok ok' : Nat → Prop} {W w1 : World} {va vb : Value} {xs : List α} {ys : List β} (ha : a.R e W base ok va xs) (hb : b.R f W base' ok' vb ys) (hg : W.grownBy w1 va.ownBlock) (hne : ∀ q, q ∈ f :: b.E → q ≠ e) : b.R f w1 base' ok' vb ys := by
  refine Kd.R_mono (Kd.R_move (Kd.R_bound hb) (fun k hk => ?_)) (fun k hk => hk.1)
  obtain ⟨_, _, hlt, q, hq, cells, hc⟩ := hk
  refine hg.block k hlt (fun he => ?_)
  obtain ⟨h0, inner, ho, hr⟩ := ha
  obtain ⟨cells2, hc2⟩ := own_typed ho k he.symm
  rw [hc] at hc2
  simp only [Option.some.injEq, Obj.cells.injEq] at hc2
  exact hne q hq hc2.2.1
theorem info32 : (Tryz.prog.info? 33).map (fun i => (i.zero, i.size, i.bytes)) = some (some (.agg #[.int .i64 0, .int .i64 0, .int .i64 0, .int .i64 0, .int .i64 0, .string ⟨#[]⟩, .string ⟨#[]⟩, .string ⟨#[]⟩, .int .i64 0, .slice none 0 0, .slice none 0 0, .int .i64 0, .int .i64 0]), 13, 160) := by kernel_rfl
theorem info3 : (Tryz.prog.info? 3).map (fun i => (i.zero, i.size, i.bytes)) = some (some (.int .i64 0), 1, 8) := by kernel_rfl
end Go.Proofs.YteoebfiacnploaaGreatDoor.HRec
namespace Go.Proofs.YteoebfiacnploaaGreatDoor.HRec
open Go.RowKit Go.Proofs.YteoebfiacnploaaGreatDoorW.PrintWords Go.Proofs.YteoebfiacnploaaGreatDoorW.PrintLast Go.Proofs.YteoebfiacnploaaGreatDoorW.PrintMore
set_option linter.unusedVariables false
set_option linter.unusedSimpArgs false
theorem val_step {P : Program} {ops : Array Oper} {o : Oper} {a : Act} {Q : Exit → Act → World → Prop} {K : Act → World → Prop} {W w1 : World} {N : Option Tmp} (v : Value) (hw : Region.wanted o (yielded ops a.tmps) = true) (hd : o.dst = N) (hrun : (execOp a.eval o).run P W = .ok (.value v) w1) (h : K (a.put N v) w1) :
    if Region.wanted o (yielded ops a.tmps) = true then Oper.wp P o a W K Q else K (a.put N undef) W := by
  rw [if_pos hw]
  unfold Oper.wp
  rw [hrun]
  show K (a.put o.dst v) w1
  rw [hd]
  exact h
theorem heap_of_cell {W : World} {p : Addr} {v : Value} (h : W.cell? p = some v) : p.block < W.heap.size := by
  by_cases hb : p.block < W.heap.size
  · exact hb
  · exfalso
    have hn : W.heap[p.block]? = none := Array.getElem?_eq_none (by omega)
    simp [World.cell?, hn] at h
theorem below_cell {W w' : World} {p : Addr} {v : Value} (hs : Below W.heap.size W w') (h : W.cell? p = some v) : w'.cell? p = some v := (Below.cell hs (heap_of_cell h)).trans h
theorem at_int {w : World} {A : Option Addr} {n : Nat} {xs : List Int} (h : (Kd.int .i64).C w A n xs) (i : Int) (h0 : 0 ≤ i) (h1 : i < n) : ∃ ad, A = some ad ∧ w.cell? (ad.add i.toNat) = some (.int .i64 (rdOf 0 xs i)) := by
  obtain ⟨ad, c, e, _, hK, hc0⟩ := Kd.C_get h 0 i h0 h1
  have hc : ∀ j u, c[j]? = some u → w.cell? (ad.add (i.toNat * 1 + j)) = some u := hc0
  have hK : c = [.int .i64 (rdOf 0 xs i)] := hK
  subst hK
  have := hc 0 _ rfl
  rw [Nat.mul_one] at this
  exact ⟨ad, e, this⟩
/-- The operations of a region that are yet to be taken, in this order. -/
def Ord (_ : List Nat) (p : Prop) : Prop := p
theorem ord_ (o : List Nat) {p : Prop} (h : Ord o p) : p := h
section
variable {P : Program} {ops : Array Oper} {Q : Exit → Act → World → Prop} {md : Region.Mode} {S : World → Prop} {ds : List Nat} {T : Bool × List (List Nat × List Nat)} {B : List Nat} {i n : Nat} {r : List Nat} {N : Option Tmp} {d : Tmp} {oi : Oper} {v : Value} {l : Array Bool} {a : Act} {w : World}
theorem ordP (hT : Aside0 (rtab md ops = T)) (hi : ops[i]? = some oi) (hN : oi.dst = some d) (hc : anyT T l.toList (l.setIfInBounds i true).toList i = true) (hQ : ∀ c a w, Q (.panic c) (a.put oi.dst v) w → Q (.panic c) a w) (hy : Yields P ops oi v a) {a' : Act} (ha : a.put (some d) v = a') (h : Ord r (wpAnyLast P md ops Q S ds n (l.setIfInBounds i true) a' w)) : Ord (i :: r) (wpAnyLast P md ops Q S ds (n + 1) l a w) := pure_ _ hi hN (any_of hT.out hc) hQ hy ha h
theorem ordT (hT : Aside0 (rtab md ops = T)) (hW : Aside0 (waitsOk T.2 B = true)) (hi : ops[i]? = some oi) (hN : oi.dst = some d) (hc : takeW T B ds l.toList (l.setIfInBounds i true).toList i = true) (hQ : ∀ c a w, Q (.panic c) (a.put oi.dst v) w → Q (.panic c) a w) (hy : YieldsIf P ops S oi v a) (hS : S w) {a' : Act} (ha : a.put (some d) v = a') (h : Ord r (wpAnyLast P md ops Q S ds n (l.setIfInBounds i true) a' w)) : Ord (i :: r) (wpAnyLast P md ops Q S ds (n + 1) l a w) := take_ _ hi hN (take_ofW hT.out hW.out hc) hQ hy hS ha h
theorem ord1 (hT : Aside0 (rtab md ops = T)) (hi : ops[i]? = some oi) (hN : oi.dst = N) (hc : (readyT T.2 l.toList == [i] && l.toList.set i true == (l.setIfInBounds i true).toList) = true) (hd : i ∉ ds) (h : ∀ K : Act → World → Prop, Shut (∀ a' w', S w' → (S w' → Ord r (wpAnyLast P md ops Q S ds n (l.setIfInBounds i true) a' w')) → K a' w') → if Region.wanted oi (yielded ops a.tmps) = true then Oper.wp P oi a w K Q else K (a.put N undef) w) : Ord (i :: r) (wpAnyLast P md ops Q S ds (n + 1) l a w) := one_ _ hi hN (one_of hT.out hc) hd h
theorem ordL (hT : Aside0 (rtab md ops = T)) (hi : ops[i]? = some oi) (hN : oi.dst = N) (hc : (readyT T.2 l.toList == [i] && l.toList.set i true == (l.setIfInBounds i true).toList) = true) (hd : i ∈ ds) (h : ∀ K : Act → World → Prop, Shut (∀ a' w', Ord r (wpAnyLast P md ops Q S ds n (l.setIfInBounds i true) a' w') → K a' w') → if Region.wanted oi (yielded ops a.tmps) = true then Oper.wp P oi a w K Q else K (a.put N undef) w) : Ord (i :: r) (wpAnyLast P md ops Q S ds (n + 1) l a w) := last_ _ hi hN (one_of hT.out hc) hd h
theorem ordN {a' : Act} (ha : a = a') (h : Ord r (wpAnyLast P md ops Q S ds n l a' w)) : Ord r (wpAnyLast P md ops Q S ds n l a w) := norm_ ha h
theorem ordD (hT : Aside0 (rtab md ops = T)) (hr : (readyT T.2 l.toList == []) = true) (h : Q .normal a w) : Ord [] (wpAnyLast P md ops Q S ds n l a w) := done_ (done_of hT.out hr) h
end
end Go.Proofs.YteoebfiacnploaaGreatDoor.HRec
namespace Go.Proofs.YteoebfiacnploaaGreatDoor.HRec
open Go.RowKit Go.Proofs.YteoebfiacnploaaGreatDoorW.PrintWords Go.Proofs.YteoebfiacnploaaGreatDoorW.PrintLast Go.Proofs.YteoebfiacnploaaGreatDoorW.PrintMore
set_option linter.unusedVariables false
set_option linter.unusedSimpArgs false
/-- Every block but bytes' and Builders' stays. -/
def KeepT (w w' : World) : Prop := ∀ (g : Nat) (cells : Array Value) (t : TypeId) (f : Nat × Nat), w.heap[g]? = some (.cells cells t f) → t ≠ 59 → t ≠ 5 → w'.heap[g]? = w.heap[g]?
theorem KeepT.trans {w w1 w2 : World} (h1 : KeepT w w1) (h2 : KeepT w1 w2) : KeepT w w2 := fun g cells t f h a b => by
  have e1 := h1 g cells t f h a b
  exact (h2 g cells t f (e1.trans h) a b).trans e1
theorem KeepT.below {w w1 : World} (h : Below w.heap.size w w1) : KeepT w w1 := fun g cells t f hg a b => h.block g (by
  rcases Nat.lt_or_ge g w.heap.size with h' | h'
  · exact h'
  · simp [Array.getElem?_eq_none h'] at hg)
theorem R_keepT {α : Type} {d : Kd α} {e base : Nat} {ok : Nat → Prop} {w w1 : World} {v : Value} {xs : List α} (h : Kd.R d e w base ok v xs) (hk : KeepT w w1) (hE : ∀ q, q ∈ e :: d.E → q ≠ 59 ∧ q ≠ 5) : Kd.R d e w1 base ok v xs :=
  Kd.R_mono (Kd.R_move (Kd.R_bound h) (fun k hk1 => by
    obtain ⟨_, _, _, q, hq, cells, hc⟩ := hk1
    exact hk k cells q (0, 0) hc (hE q hq).1 (hE q hq).2)) (fun _ hk1 => hk1.1)
theorem blk_lt {w : World} {b : Nat} {o : Obj} (h : w.heap[b]? = some o) : b < w.heap.size := by
  rcases Nat.lt_or_ge b w.heap.size with h' | h'
  · exact h'
  · simp [Array.getElem?_eq_none h'] at h
set_option maxHeartbeats 2000000 in
set_option maxRecDepth 100000 in
theorem copyCheckT (B b : Nat) (bs : List Value) (w : World) (h : Lib.IsBuilder 59 5 B b bs w) :
    Calls Tryz.prog 33 #[.pointer (some ⟨b, 0, none⟩)] w fun e w' => e = .returned (.tuple #[]) ∧ Lib.BuilderAt 59 5 B b (.pointer (some ⟨b, 0, none⟩)) bs w' ∧ Below B w w' ∧ KeepT w w' := by
  refine (Hook.copyCheck B b bs w h).mono ?_
  rintro e w' ⟨rfl, h1, hb, _, hk⟩
  refine ⟨rfl, h1, hb, fun g cells t f hg ht1 ht2 => (hk g ⟨?_, blk_lt hg, ?_⟩).2⟩
  · rintro rfl
    rcases h with ⟨_, v, hv, _⟩ | ⟨_, v, hv, _⟩
    · rw [hv] at hg; injection hg with hg; injection hg with _ hg; exact ht1 hg.symm
    · rw [hv] at hg; injection hg with hg; injection hg with _ hg; exact ht1 hg.symm
  · intro p v hv he
    have go : ∀ q, Lib.BuilderAt 59 5 B b q bs w → False := by
      rintro q ⟨_, u, hu, ho, _⟩
      rw [hu] at hv
      injection hv with hv; injection hv with hv; injection hv with hv; injection hv with _ hv; injection hv with hv
      subst hv
      obtain ⟨cells', hc⟩ := own_typed ho g he
      rw [hc] at hg; injection hg with hg; injection hg with _ hg; exact ht2 hg.symm
    rcases h with h | h
    · exact go _ h
    · exact go _ h
set_option maxHeartbeats 2000000 in
set_option maxRecDepth 100000 in
theorem writeString (B b : Nat) (bs : List Value) (s : ByteArray) (w : World) (h : Lib.IsBuilder 59 5 B b bs w) (hlen : bs.length + s.size ≤ 140737488355328) (hBw : B ≤ w.heap.size) :
    Calls Tryz.prog 19 #[.pointer (some ⟨b, 0, none⟩), .string s] w fun e w' => (∃ v, e = .returned v) ∧ Lib.IsBuilder 59 5 B b (bs ++ Lib.strCells s) w' ∧ Below B w w' ∧ KeepT w w' := by
  obtain ⟨i0, hi, hz0, hz1, hz2⟩ := info_parts Hook.info8
  go_enter Tryz.func19, Tryz.ntmps19
  go_wp2_with fail
  refine (copyCheckT B b bs w h).mono ?_
  rintro e w1 ⟨rfl, h1, hb1, hk1⟩
  obtain ⟨hB, v, hbk, hown, hne⟩ := h1
  have c0 : w1.cell? ⟨b, 0, none⟩ = some (.pointer (some ⟨b, 0, none⟩)) := by rw [Lib.cell_of_heap hbk]; rfl
  have c1 : w1.cell? ⟨b, 1, none⟩ = some v := by rw [Lib.cell_of_heap hbk]; rfl
  have HK1 := Aside0.mk hk1; clear hk1
  go_wp2_with (at_builtin; refine Lib.wpList_append_own_string w1 rfl (.tmp 12) (.tmp 13) 57 9 rfl B 5 i0 Tryz.underlying57 Tryz.underlying9 hi hz0 hz1 hz2 v bs.length bs rfl hown s rfl ?c1 hlen ?c2 ?_)
  case c1 => show bs.length + s.size ≤ 9223372036854775807; omega
  case c2 => have := hb1.size; omega
  intro v' w2 hown' hgrow hnil
  have hlt : b < w1.heap.size := blk_lt hbk
  have hb2 : w2.heap[b]? = some (.cells #[.pointer (some ⟨b, 0, none⟩), v] 59 (0, 0)) := by
    rw [hgrow.block b hlt (fun e => hne e.symm)]
    exact hbk
  have hne' : v'.ownBlock ≠ some b := by
    intro e
    obtain ⟨cells', hc⟩ := own_typed hown' b e
    rw [hb2] at hc; injection hc with hc; injection hc with _ hc; exact absurd hc (by decide)
  have d0 : w2.cell? ⟨b, 0, none⟩ = some (.pointer (some ⟨b, 0, none⟩)) := by rw [Lib.cell_of_heap hb2]; rfl
  have d1 : w2.cell? ⟨b, 1, none⟩ = some v := by rw [Lib.cell_of_heap hb2]; rfl
  have f1 : w2.frozen? ⟨b, 1, none⟩ = false := Lib.frozen_of_heap hb2 1
  have HN := Aside0.mk hnil; have hB2 := hb1.grown hgrow (Nat.le_trans hBw hb1.size) (own_base hown); clear hnil
  obtain ⟨A, cap, rfl⟩ : ∃ A cap, v' = .slice A (bs.length + s.size) cap := by
    rcases hown'.2 with ⟨h0, h1⟩ | ⟨g, cap, cur, hv, _⟩
    · exact ⟨none, 0, by rw [h0, h1]⟩
    · exact ⟨some ⟨g, 0, none⟩, cap, hv⟩
  go_wp2
  go_ret2
  have hsc : ∀ k, k ≠ b → (w2.setCell ⟨b, 1, none⟩ (.slice A (bs.length + s.size) cap)).heap[k]? = w2.heap[k]? := fun k hk => Below.heap_setCell _ _ _ _ hk
  have hbk3 : (w2.setCell ⟨b, 1, none⟩ (.slice A (bs.length + s.size) cap)).heap[b]? = some (.cells #[.pointer (some ⟨b, 0, none⟩), .slice A (bs.length + s.size) cap] 59 (0, 0)) := by
    simp [World.setCell, Array.getElem?_modify, hb2]
  refine ⟨⟨_, rfl⟩, .inr ⟨hB, .slice A (bs.length + s.size) cap, hbk3, ?_, hne'⟩, hB2.setCell (p := ⟨b, 1, none⟩) hB _, ?_⟩
  · rw [List.length_append, Lib.strCells_length]
    exact own_move hown' (fun k hk => hsc k (fun e => hne' (e ▸ hk)))
  · intro k cells t f hk ht1 ht2
    have e1 := HK1.out k cells t f hk ht1 ht2; have hk1 := e1.trans hk
    have hkb : k ≠ b := by
      rintro rfl
      rw [hbk] at hk1; injection hk1 with hk1; injection hk1 with _ hk1; exact ht1 hk1.symm
    have hkv : some k ≠ v.ownBlock := by
      intro e
      obtain ⟨cells', hc⟩ := own_typed hown k e.symm
      rw [hc] at hk1; injection hk1 with hk1; injection hk1 with _ hk1; exact ht2 hk1.symm
    exact (hsc k hkb).trans ((hgrow.block k (blk_lt hk1) hkv).trans e1)
theorem builder_below {B b : Nat} {bs : List Value} {w w1 : World} (h : Lib.IsBuilder 59 5 B b bs w) (hb : Below w.heap.size w w1) : Lib.IsBuilder 59 5 B b bs w1 := by
  have go : ∀ q, Lib.BuilderAt 59 5 B b q bs w → Lib.BuilderAt 59 5 B b q bs w1 := by
    rintro q ⟨hB, v, hv, ho, hne⟩
    exact ⟨hB, v, (hb.block b (blk_lt hv)).trans hv, own_move ho (fun k hk => hb.block k (own_lt ho k hk)), hne⟩
  rcases h with h | h
  · exact .inl (go _ h)
  · exact .inr (go _ h)
theorem builder_drew {B b : Nat} {bs : List Value} {w : World} (h : Lib.IsBuilder 59 5 B b bs w) : Lib.IsBuilder 59 5 B b bs w.drew := h
theorem strCells_append (a b : ByteArray) : Lib.strCells (a ++ b) = Lib.strCells a ++ Lib.strCells b := by
  unfold Lib.strCells
  rw [← List.map_append]
  congr 1
end Go.Proofs.YteoebfiacnploaaGreatDoor.HRec
