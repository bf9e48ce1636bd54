/- The plain law of SayEvents: whatever the event is, the law holds of it. -/
import Derived.Test.YtflbkgpmepfhlaaDoorPureEvents
import Derived.Test.YtflbkgpmepfhlaaDoorFgharrylaw25SayEvents
namespace Go.Proofs.YtflbkgpmepfhlaaDoor.SayPure
open Go.RowKit Go.Proofs.YtflbkgpmepfhlaaDoor.HSay Go.Proofs.YtflbkgpmepfhlaaDoor.Hook Go.Proofs.YtflbkgpmepfhlaaDoorW.PrintWords
set_option linter.unusedVariables false
section
variable (a b c d : Int) (f g : ByteArray) (h o : Bool) (e : Int) (p : Bool) (q : Int) (m1 m2 m3 m4 m5 : Int)
theorem events_loop (l : List S52) (hl : l.length ≤ 20) (hg : g.size ≤ 300) : ∀ (n i : Nat), i + n = l.length → (∀ (j : Nat) (hj : j < l.length), j < i → l[j].f0.size ≤ 50 ∧ l[j].f1.size ≤ 50) →
    gharrylaw25_SayEvents.l0 (n + 101) (i : Int) a b c d f g h o e p q l m1 m2 m3 m4 m5 = some true := by
  intro n
  induction n with
  | zero =>
    intro i hi hok
    have hc : okC l := by
      refine ⟨hl, fun x hx => ?_⟩
      obtain ⟨j, hj, rfl⟩ := List.getElem_of_mem hx
      exact hok j hj (by omega)
    rw [show 0 + 101 = 100 + 1 from rfl, gharrylaw25_SayEvents.l0, if_neg (by omega), event_say a b c d f g h o e p q m1 m2 m3 m4 m5 l hc hg, Option.bind_some, event_law a b c d f g h o e p q m1 m2 m3 m4 m5 l hc hg, Option.bind_some, if_pos rfl, awake, Option.bind_some]
  | succ n ih =>
    intro i hi hok
    have hil : i < l.length := by omega
    rw [show n + 1 + 101 = (n + 101) + 1 from by omega, gharrylaw25_SayEvents.l0, if_pos (by omega), if_pos (by omega), rd_cell l i hil]
    by_cases h0 : (l[i].f0.size : Int) > 50
    · rw [if_pos h0, awake, Option.bind_some]
    rw [if_neg h0]
    by_cases h1 : (l[i].f1.size : Int) > 50
    · rw [if_pos h1, awake, Option.bind_some]
    rw [if_neg h1, wrap64_of _ (by omega) (by omega)]
    have := ih (i + 1) (by omega) (fun j hj hji => by
      by_cases hlt : j < i
      · exact hok j hj hlt
      · obtain rfl : j = i := by omega
        omega)
    rw [show ((i + 1 : Nat) : Int) = (i : Int) + 1 from by omega] at this
    exact this
theorem SayEvents (l : List S52) (hl : l.length ≤ 20) : gharrylaw25_SayEvents.f (l.length + 101) a b c d f g h o e p q l m1 m2 m3 m4 m5 = some true := by
  unfold gharrylaw25_SayEvents.f
  rw [cut_f, Option.bind_some]
  exact events_loop a b c d f (cutB g) h o e p q m1 m2 m3 m4 m5 l hl (cut_size g) l.length 0 (by omega) (fun j _ hj => absurd hj (by omega))
end
end Go.Proofs.YtflbkgpmepfhlaaDoor.SayPure
