/- act: any call by both. -/
import Derived.Test.YtgdkobknjgbdbaaFlXa
import Derived.Test.YtgdkobknjgbdbaaFlXb
import Derived.Test.YtgdkobknjgbdbaaFlXd
namespace Go.Proofs.Ytgdkobknjgbdbaa
set_option linter.unusedVariables false
set_option linter.unusedSimpArgs false
open Go.RowKit
set_option maxRecDepth 100000

theorem act_any {n0 g room lost : Nat} {v : Value} {rs ws : List Ml} {w : World} {p : Nat → Prop} {A : Option Addr} {n k : Nat} (x : Ac) (hnow : x.nw ≤ 9223372036854775807) (hxr : RdP w p x.ml.A (x.ml.m.bs.map b8)) (hxl : x.ml.m.bs.length ≤ 60) (hxc : x.ml.m.bs.length ≤ x.ml.c ∧ x.ml.c ≤ maxLen)
    (hF : Fl w n0 g v rs room lost) (hn0 : n0 ≤ w.heap.size) (hms : msL rs = msL ws) (hW : Want w p A n k ws) (hp : ∀ b, p b → Kp g v b) :
    Calls Try.prog 19 #[.pointer (some ⟨g, 0, none⟩), .agg #[.slice A n k, .int .i64 room, .int .i64 lost], .agg (acA x)] w (ActOk w n0 g v rs room p) := by
  by_cases h : x.wh < 0 ∨ 7 < x.wh
  · exact act_copy x h hF hn0 hms hW
  · have h8 : x.wh = 0 ∨ x.wh = 1 ∨ x.wh = 2 ∨ x.wh = 3 ∨ x.wh = 4 ∨ x.wh = 5 ∨ x.wh = 6 ∨ x.wh = 7 := by omega
    rcases h8 with e | e | e | e | e | e | e | e
    · exact act_put0 x e hxr hxl hxc hF hn0 hms hW hp
    · exact act_put1 x e hxr hxl hxc hF hn0 hms hW hp
    · exact act_put2 x e hxr hxl hxc hF hn0 hms hW hp
    · exact act_put3 x e hxr hxl hxc hF hn0 hms hW hp
    · exact act_put4 x e hxr hxl hxc hF hn0 hms hW hp
    · exact act_peek x e hF hn0 hms hW hp
    · exact act_take x e hF hn0 hms hW hp
    · exact act_late x e hnow hF hn0 hms hW hp
end Go.Proofs.Ytgdkobknjgbdbaa
