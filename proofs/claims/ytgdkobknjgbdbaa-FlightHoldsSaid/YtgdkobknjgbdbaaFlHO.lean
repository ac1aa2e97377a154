/- FlightHolds: both parts of its walk. -/
import Derived.Test.YtgdkobknjgbdbaaFlH
import Derived.Test.YtgdkobknjgbdbaaOpenR
import Derived.Test.YtgdkobknjgbdbaaOpen19
namespace Go.Proofs.Ytgdkobknjgbdbaa
set_option linter.unusedVariables false
set_option linter.unusedSimpArgs false
open Go.RowKit
theorem flightholds_walk (rm d : Int) (ms ps : List Int) (K K2 : Nat) (A B : Option Addr) (w : World) (hr : Rd w w.heap.size A (ms.map (Value.int .i64))) (hp : Rd w w.heap.size B (ps.map (Value.int .i64))) (hNK : ms.length ≤ K ∧ K ≤ 9223372036854775807) (hMK : ps.length ≤ K2 ∧ K2 ≤ 9223372036854775807) :
    Calls Try.prog 3 #[.int .i64 rm, .int .i64 d, .slice A ms.length K, .slice B ps.length K2] w fun e w' => e = .returned (.bool true) ∧ Below w.heap.size w w' := by
  by_cases h : (1 ≤ rm ∧ rm ≤ 20) ∧ (0 ≤ d ∧ d ≤ 10) ∧ ms.length ≤ 40 ∧ ps.length ≤ 40
  · obtain ⟨R, rfl⟩ := Int.eq_ofNat_of_zero_le (show 0 ≤ rm by omega)
    exact flightholds_yes R d ms ps ms.length K ps.length K2 rfl rfl A B w hr hp hNK hMK (by omega) h.2.1 h.2.2.1 h.2.2.2
  · exact flightholds_no rm d ms.length K ps.length K2 A B w h
end Go.Proofs.Ytgdkobknjgbdbaa
