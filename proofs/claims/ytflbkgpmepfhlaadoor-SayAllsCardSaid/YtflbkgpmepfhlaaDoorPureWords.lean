/- The plain law of SayWords. -/
import Derived.Test.YtflbkgpmepfhlaaDoorPureA
namespace Go.Proofs.YtflbkgpmepfhlaaDoor.SayPure
open Go.RowKit Go.Proofs.YtflbkgpmepfhlaaDoor.HSay Go.Proofs.YtflbkgpmepfhlaaDoor.Hook Go.Proofs.YtflbkgpmepfhlaaDoorW.PrintWords
set_option linter.unusedVariables false
def mkW (s : ByteArray) : ByteArray := ⟨(word s.data.toList).toArray⟩
theorem sayWord_f {s : ByteArray} (h : s.size ≤ 1000000) : say_Word.f s = some (mkW s) := if_pos h
theorem refWord_f {s : ByteArray} (h : s.size ≤ 1000000) : gharryref25_Word.f s = some (mkW s) := if_pos h
theorem mkW_list (s : ByteArray) : (mkW s).data.toList = word s.data.toList := rfl
theorem size_list (s : ByteArray) : s.data.toList.length = s.size := Array.length_toList
theorem mkW_size (s : ByteArray) : (mkW s).size ≤ 1 + 3 * s.size := by
  rw [← size_list, mkW_list, ← size_list s]
  exact word_le _
theorem sayText_some {s : ByteArray} (h : s.size ≤ 1000000) {t : List UInt8} (ht : text s.data.toList = some t) : say_Text.f s = some (⟨t.toArray⟩, 0) := by
  unfold say_Text.f
  rw [if_pos h, ht]
theorem sayText_none {s : ByteArray} (h : s.size ≤ 1000000) (ht : text s.data.toList = none) : say_Text.f s = some (⟨#[]⟩, 4) := by
  unfold say_Text.f
  rw [if_pos h, ht]
theorem refText_some {s : ByteArray} (h : s.size ≤ 1000000) {t : List UInt8} (ht : text s.data.toList = some t) : gharryref25_Text.f s = some (⟨t.toArray⟩, true) := by
  unfold gharryref25_Text.f
  rw [if_pos h, ht]
theorem refText_none {s : ByteArray} (h : s.size ≤ 1000000) (ht : text s.data.toList = none) : gharryref25_Text.f s = some (⟨#[]⟩, false) := by
  unfold gharryref25_Text.f
  rw [if_pos h, ht]
end Go.Proofs.YtflbkgpmepfhlaaDoor.SayPure
