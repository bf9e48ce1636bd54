/- The plain law of SayParses. -/
import Derived.Test.YtflbkgpmepfhlaaDoorPureBack
import Derived.Test.YtflbkgpmepfhlaaDoorPureRef
import Derived.Test.YtflbkgpmepfhlaaDoorFgharrylaw25SayParses
namespace Go.Proofs.YtflbkgpmepfhlaaDoor.SayPure
open Go.RowKit Go.Proofs.YtflbkgpmepfhlaaDoor.HSay Go.Proofs.YtflbkgpmepfhlaaDoor.Hook Go.Proofs.YtflbkgpmepfhlaaDoorW.PrintWords
set_option linter.unusedVariables false
theorem SayParses (a0 : ByteArray) : gharrylaw25_SayParses.f 400 a0 = some true := by
  have h0 := cut_size a0
  unfold gharrylaw25_SayParses.f
  rw [cut_f, Option.bind_some]
  generalize cutB a0 = s at *
  have hp := say_parse s (by omega)
  cases hq : parseF s with
  | none =>
    have hsay : say_Parse.f s = some (0, 0, 0, 0, 0, ⟨#[]⟩, ⟨#[]⟩, false, 4) := by unfold say_Parse.f; rw [hp, hq]; rfl
    have href : gharryref25_Parse.f 400 s = some (0, 0, 0, 0, 0, ⟨#[]⟩, ⟨#[]⟩, false, false) := by rw [ref_parse s h0, hq]; rfl
    rw [hsay, Option.bind_some, href, Option.bind_some, if_neg (by decide), if_pos (by decide +kernel), if_pos rfl, awake]
    rfl
  | some t =>
    obtain ⟨hl, ho⟩ := line_parse s t 300 h0 hq
    have hpr := print_one t.1 t.2.1 t.2.2.1 t.2.2.2.1 t.2.2.2.2.1 t.2.2.2.2.2.1 t.2.2.2.2.2.2.1 t.2.2.2.2.2.2.2 ho.1 ho.2.1 ho.2.2.1 ho.2.2.2 400 (by omega)
    have hsay : say_Parse.f s = some (t.1, t.2.1, t.2.2.1, t.2.2.2.1, t.2.2.2.2.1, t.2.2.2.2.2.1, t.2.2.2.2.2.2.1, t.2.2.2.2.2.2.2, 0) := by unfold say_Parse.f; rw [hp, hq]; rfl
    have href : gharryref25_Parse.f 400 s = some (t.1, t.2.1, t.2.2.1, t.2.2.2.1, t.2.2.2.2.1, t.2.2.2.2.2.1, t.2.2.2.2.2.2.1, t.2.2.2.2.2.2.2, true) := by rw [ref_parse s h0, hq]; rfl
    rw [hsay, Option.bind_some, href, Option.bind_some, if_pos rfl]
    show (say_Print.f 400 t.1 t.2.1 t.2.2.1 t.2.2.2.1 t.2.2.2.2.1 t.2.2.2.2.2.1 t.2.2.2.2.2.2.1 t.2.2.2.2.2.2.2).bind _ = _
    rw [hpr, Option.bind_some, hl, if_pos (by simp), if_pos rfl, if_pos rfl, if_pos rfl, awake]
    rfl
end Go.Proofs.YtflbkgpmepfhlaaDoor.SayPure
