/- SayEvents returns true, whatever the event: the walk and the plain law, joined. -/
import Derived.Test.YtflbkgpmepfhlaaDoorEventsLong
import Derived.Test.YtflbkgpmepfhlaaDoorPureSayEvents
namespace Go.Proofs.YtflbkgpmepfhlaaDoor.SayPure
open Go.RowKit Go.Proofs.YtflbkgpmepfhlaaDoor.HSay Go.Proofs.YtflbkgpmepfhlaaDoor.Hook Go.Proofs.YtflbkgpmepfhlaaDoorW.PrintWords
theorem SayEventsWalk (a b c d : Int) (f g : ByteArray) (h o : Bool) (e : Int) (p : Bool) (q : Int) (A : Option Addr) (n : Nat) (l : List S52) (m1 m2 m3 m4 m5 : Int) (w : World) (hC : Kd.C k52 w A l.length l) (hc : l.length ≤ n) :
    Calls Tryd.prog 9 #[.agg #[.int .i64 a, .int .i64 b, .int .i64 c, .int .i64 d, .string f, .string g, .bool h, .bool o, .int .i64 e, .bool p, .int .i64 q, .slice A l.length n, .int .i64 m1, .int .i64 m2, .int .i64 m3, .int .i64 m4, .int .i64 m5]] w fun e w' => e = .returned (.bool true) ∧ Below w.heap.size w w' := by
  by_cases hl : l.length ≤ 20
  · exact gharrylaw25_SayEvents.short _ a b c d f g h o e p q A n l m1 m2 m3 m4 m5 true w hC hc hl (SayEvents a b c d f g h o e p q m1 m2 m3 m4 m5 l hl)
  · exact gharrylaw25_SayEvents.long _ a b c d f g h o e p q A n l m1 m2 m3 m4 m5 true w hC hc (by omega) (SayEvents a b c d f g h o e p q m1 m2 m3 m4 m5 (l.take 20) (by rw [List.length_take]; omega))
end Go.Proofs.YtflbkgpmepfhlaaDoor.SayPure
