/- PulseHolds: the walk, whatever the input. -/
import Derived.Test.YtlgkjboamfgbeaaDoorPulN
import Derived.Test.YtlgkjboamfgbeaaDoorPulF
namespace Go.Proofs.YtlgkjboamfgbeaaDoor
set_option linter.unusedVariables false
set_option linter.unusedSimpArgs false
open Go.RowKit
set_option maxRecDepth 100000
theorem pulseholds_walk (p j t h g q s cp : Int) (lc ld : Nat) (Ac Ad : Option Addr) (kc kd : Nat) (bs : List Bool) (zs : List Int) (hbs : bs.length = lc) (hzs : zs.length = ld) (A : Option Addr) (n k : Nat) (l : List (Nat × Int)) (hn : l.length = n) (w : World) (hr : Rd w w.heap.size A (plC l)) (hnk : n ≤ k) (hk : k ≤ 9223372036854775807) (hl : ∀ x ∈ l, x.1 < 4294967296) (hw : CapsAt w) (hrc : Rd w w.heap.size Ac (bs.map Value.bool)) (hrd : Rd w w.heap.size Ad (zs.map (Value.int .i64))) (hck : lc ≤ kc) (hck2 : kc ≤ 9223372036854775807) (hdk : ld ≤ kd) (hdk2 : kd ≤ 9223372036854775807) :
    Calls Tryd.prog 6 #[.agg #[.int .i64 p, .int .i64 j, .int .i64 t, .int .i64 h, .int .i64 g, .int .i64 q, .int .i64 s, .int .i64 cp, .slice A n k], .slice Ac lc kc, .slice Ad ld kd] w fun e w' => e = .returned (.bool true) ∧ Below w.heap.size w w' := by
  by_cases hh : n ≤ 20 ∧ okC p j t h g q s cp l = true ∧ lc ≤ 120 ∧ ld ≤ 120 ∧ p ≤ 40 ∧ j ≤ 40 ∧ q ≤ 40 ∧ s ≤ 40
  · obtain ⟨h1, h2, h3, h4, h5, h6, h7, h8⟩ := hh
    exact pulseholds_yes_walk p j t h g q s cp lc ld Ac Ad kc kd bs zs hbs hzs A n k l hn w hr hnk hk hl hw hrc hrd hck hck2 hdk hdk2 h1 h2 h3 h4 h5 h6 h7 h8
  · exact pulseholds_no_walk p j t h g q s cp lc ld Ac Ad kc kd bs zs hbs hzs A n k l hn w hr hnk hk hl hw hrc hrd hck hck2 hdk hdk2 hh
end Go.Proofs.YtlgkjboamfgbeaaDoor
