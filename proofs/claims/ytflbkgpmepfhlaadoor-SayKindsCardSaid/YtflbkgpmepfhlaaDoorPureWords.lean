/- The plain law of SayWords. -/
import Derived.Test.YtflbkgpmepfhlaaDoorPureA
namespace Go.Proofs.YtflbkgpmepfhlaaDoor.SayPure
open Go.RowKit Go.Proofs.YtflbkgpmepfhlaaDoor.HSay Go.Proofs.YtflbkgpmepfhlaaDoor.Hook Go.Proofs.YtflbkgpmepfhlaaDoorW.PrintWords
set_option linter.unusedVariables false
def mkW (s : ByteArray) : ByteArray := ⟨(word s.data.toList).toArray⟩
theorem sayWord_f {s : ByteArray} (h : s.size ≤ 1000000) : say_Word.f s = some (mkW s) := if_pos h
theorem refWord_f {s : ByteArray} (h : s.size ≤ 1000000) : gharryref25_Word.f s = some (mkW s) := if_pos h
theorem mkW_list (s : ByteArray) : (mkW s).data.toList = word s.data.toList := rfl
theorem size_list (s : ByteArray) : s.data.toList.length = s.size := Array.length_toList
theorem mkW_size (s : ByteArray) : (mkW s).size ≤ 1 + 3 * s.size := by
  rw [← size_list, mkW_list, ← size_list s]
  exact word_le _
theorem sayText_some {s : ByteArray} (h : s.size ≤ 1000000) {t : List UInt8} (ht : text s.data.toList = some t) : say_Text.f s = some (⟨t.toArray⟩, 0) := by
  unfold say_Text.f
  rw [if_pos h, ht]
theorem sayText_none {s : ByteArray} (h : s.size ≤ 1000000) (ht : text s.data.toList = none) : say_Text.f s = some (⟨#[]⟩, 4) := by
  unfold say_Text.f
  rw [if_pos h, ht]
theorem refText_some {s : ByteArray} (h : s.size ≤ 1000000) {t : List UInt8} (ht : text s.data.toList = some t) : gharryref25_Text.f s = some (⟨t.toArray⟩, true) := by
  unfold gharryref25_Text.f
  rw [if_pos h, ht]
theorem refText_none {s : ByteArray} (h : s.size ≤ 1000000) (ht : text s.data.toList = none) : gharryref25_Text.f s = some (⟨#[]⟩, false) := by
  unfold gharryref25_Text.f
  rw [if_pos h, ht]
theorem SayWords (a0 a1 : ByteArray) : gharrylaw25_SayWords.f 1 a0 a1 = some true := by
  have h0 := cut_size a0
  have h1 := cut_size a1
  unfold gharrylaw25_SayWords.f
  rw [cut_f, Option.bind_some, cut_f, Option.bind_some]
  generalize cutB a0 = s at *
  generalize cutB a1 = v at *
  have hs := mkW_size s
  rw [sayWord_f (by omega), Option.bind_some, sayText_some (by omega) (by rw [mkW_list]; exact text_word _), Option.bind_some]
  have he : (⟨s.data.toList.toArray⟩ : ByteArray) = s := by cases s; simp
  rw [he]
  cases ht : text v.data.toList with
  | none =>
    rw [sayText_none (by omega) ht, Option.bind_some, refText_none (by omega) ht, Option.bind_some, refWord_f (by omega), Option.bind_some, if_pos rfl, if_pos rfl]
    rw [gharrylaw25_SayWords.j0, if_neg (by simp), if_neg (by simp), if_pos (by rw [bytes_toList]), if_pos rfl, awake]
    rfl
  | some t =>
    have hl := text_le _ _ ht
    have hsz : (⟨t.toArray⟩ : ByteArray).size = t.length := by simp [ByteArray.size]
    rw [size_list] at hl
    rw [sayText_some (by omega) ht, Option.bind_some, refText_some (by omega) ht, Option.bind_some, refWord_f (by omega), Option.bind_some, if_pos rfl, if_pos rfl]
    rw [gharrylaw25_SayWords.j0, if_neg (by simp), if_pos rfl, if_pos rfl, if_pos rfl, sayWord_f (by rw [hsz]; omega), Option.bind_some, if_pos, awake]
    · rfl
    · rw [bytes_toList, mkW_list, bytes_toList]
      exact word_text _ _ ht
end Go.Proofs.YtflbkgpmepfhlaaDoor.SayPure
