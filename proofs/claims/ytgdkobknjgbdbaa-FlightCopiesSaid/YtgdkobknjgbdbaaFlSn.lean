/- flight: Same of two flights, and of one and none; the document's. -/
import Derived.Test.YtgdkobknjgbdbaaFlSm
namespace Go.Proofs.Ytgdkobknjgbdbaa
set_option linter.unusedVariables false
set_option linter.unusedSimpArgs false
open Go.RowKit
set_option maxRecDepth 100000

/-- are two flights of one room the same? -/
def sameFl (lost lost2 : Nat) (L L2 : List Mm) : Bool := decide (lost = lost2) && decide (L = L2)
theorem sameFl_symm (lost lost2 : Nat) (L L2 : List Mm) : sameFl lost lost2 L L2 = sameFl lost2 lost L2 L := by
  unfold sameFl
  congr 1 <;> exact decide_eq_decide.2 ⟨fun h => h.symm, fun h => h.symm⟩
/-- the cells of two records -/
abbrev C33 (b b2 : Nat) (r0 r1 r2 s0 s1 s2 : Value) (W : World) : Prop := C3 b r0 r1 r2 W ∧ C3 b2 s0 s1 s2 W

set_option maxHeartbeats 4000000 in
theorem flsame_any {n0 n1 g g2 room lost lost2 : Nat} {v v2 : Value} {rs ss : List Ml} {w : World} (hF : Fl w n0 g v rs room lost) (hG : Fl w n1 g2 v2 ss room lost2) :
    Calls Try.prog 27 #[.pointer (some ⟨g, 0, none⟩), .pointer (some ⟨g2, 0, none⟩)] w fun e w' => e = .returned (.bool (sameFl lost lost2 (msL rs) (msL ss))) ∧ Below w.heap.size w w' := by
  have HL := Lib.hid (hF.live w (Below.refl _ _))
  have HL2 := Lib.hid (hG.live w (Below.refl _ _))
  obtain ⟨A, c, hv, hc1, hc2, hR, _⟩ := hF.row
  obtain ⟨A2, c2, hv2, hc21, hc22, hR2, _⟩ := hG.row
  have hlen := hF.len
  have hroom := hF.room0.2
  have HEQ := Lib.hid (fun W (hb : Below w.heap.size w W) => eqfunc_any rs ss rs.length ss.length c c2 rfl rfl A A2 w.heap.size W (hR.below hb) (hR2.below hb) hb.size (by omega) (fun r hr => (hF.mails r hr).1.rd.below hb) (fun r hr => (hG.mails r hr).1.rd.below hb))
  have hb1 := hF.blk
  have hb2 := hG.blk
  rw [hv] at hb1
  rw [hv2] at hb2
  have HB1 := Lib.hid hb1
  have HB2 := Lib.hid hb2
  clear hF hG hR hR2 hv hv2 hb1 hb2 hlen hroom hc1 hc2 hc21 hc22
  generalize rs.length = n at *
  generalize ss.length = n2 at *
  have S0 : C33 g g2 (.slice A n c) (.int .i64 room) (.int .i64 lost) (.slice A2 n2 c2) (.int .i64 room) (.int .i64 lost2) w.drew := ⟨HB1.out.three, HB2.out.three⟩
  by_cases hl : lost = lost2
  case neg =>
    rw [show sameFl lost lost2 (msL rs) (msL ss) = false by simp [sameFl, hl]]
    have h1 : ((lost : Int) == lost2) = false := by rw [beq_eq_false_iff_ne]; omega
    have h2 : (lost == lost2) = false := by rw [beq_eq_false_iff_ne]; omega
    have h3 : decide (lost = lost2) = false := decide_eq_false hl
    clear HEQ
    go_enter Try.func27, Try.ntmps27
    go_wp2_with fail
    refine HL.out.mono ?_
    rintro e w' ⟨rfl, rfl⟩
    go_wp2_with fail
    refine HL2.out.mono ?_
    rintro e w' ⟨rfl, rfl⟩
    go_upto_region 4 with fail
    obtain ⟨⟨a0, a1, a2⟩, b0, b1, b2⟩ := id S0
    clear a0 a1 a2 b0 b1 b2 S0
    obtain ⟨a0, a1, a2⟩ := HB1.out.three
    obtain ⟨b0, b1, b2⟩ := HB2.out.three
    go_quiet ((fail))
    go_wp2_with fail
    go_ret
    exact ⟨rfl, below_drewN (Below.refl _ _) _⟩
  subst hl
  rw [show sameFl lost lost (msL rs) (msL ss) = decide (msL rs = msL ss) by simp [sameFl]]
  have h1 : ((lost : Int) == lost) = true := by simp
  generalize decide (msL rs = msL ss) = d at *
  go_enter Try.func27, Try.ntmps27
  go_wp2_with fail
  refine HL.out.mono ?_
  rintro e w' ⟨rfl, rfl⟩
  go_wp2_with fail
  refine HL2.out.mono ?_
  rintro e w' ⟨rfl, rfl⟩
  go_upto_region 4 with fail
  obtain ⟨⟨a0, a1, a2⟩, b0, b1, b2⟩ := id S0
  go_region_held3 (fun W => C33 g g2 (.slice A n c) (.int .i64 room) (.int .i64 lost) (.slice A2 n2 c2) (.int .i64 room) (.int .i64 lost) W) (first | exact S0 | exact S5)
    (first
    | (go_at_call 45; refine (HEQ.out _ (below_drewN (Below.refl _ _) 1)).mono ?_; rintro e w5 ⟨rfl, b5⟩; have b5' : Below w.heap.size w w5 := below_of_drewN (n := 1) b5; have S5 := And.intro (HB1.out.below b5' HB1.out.lt).three (HB2.out.below b5' HB2.out.lt).three))
  go_wp2_with fail
  go_ret
  exact ⟨rfl, b5'⟩

theorem flsame_none {n0 g room lost : Nat} {v : Value} {rs : List Ml} {w : World} (hF : Fl w n0 g v rs room lost) :
    Calls Try.prog 27 #[.pointer (some ⟨g, 0, none⟩), .pointer none] w fun e w' => e = .returned (.bool false) ∧ w = w' := by
  have HL := Lib.hid (hF.live w (Below.refl _ _))
  clear hF
  go_enter Try.func27, Try.ntmps27
  go_wp2_with fail
  refine HL.out.mono ?_
  rintro e w' ⟨rfl, rfl⟩
  go_wp2_with fail
  refine (live_nil _).mono ?_
  rintro e w' ⟨rfl, rfl⟩
  go_wp2_with fail
  refine HL.out.mono ?_
  rintro e w' ⟨rfl, rfl⟩
  go_wp2_with fail
  refine (live_nil _).mono ?_
  rintro e w' ⟨rfl, rfl⟩
  go_wp2_with fail
  go_ret
  exact ⟨rfl, rfl⟩

set_option maxHeartbeats 4000000 in
theorem refsame19_any {room lost lost2 : Nat} {p q : Nat → Prop} {A A2 : Option Addr} {n n2 c c2 : Nat} {ws ss : List Ml} {w : World} (hW : Want w p A n c ws) (hV : Want w q A2 n2 c2 ss) (hn : n ≤ 512) :
    Calls Try.prog 29 #[.agg #[.slice A n c, .int .i64 room, .int .i64 lost], .agg #[.slice A2 n2 c2, .int .i64 room, .int .i64 lost2]] w fun e w' => e = .returned (.bool (sameFl lost lost2 (msL ws) (msL ss))) ∧ Below w.heap.size w w' := by
  have hb0 : Below w.heap.size w ((w.alloc (.cells #[.slice A n c, .int .i64 room, .int .i64 lost] 49)).alloc (.cells #[.slice A2 n2 c2, .int .i64 room, .int .i64 lost2] 49)) := balloc (balloc (Below.refl _ _) _) _
  have HB := Lib.hid hb0
  have HEQ := Lib.hid (refmails_any ws ss n n2 c c2 hW.1 hV.1 A A2 w.heap.size _ (hW.rd.below hb0) (hV.rd.below hb0) hb0.size (by omega) (fun r hr => (hW.2.2.2.2 r hr).rd.below hb0) (fun r hr => (hV.2.2.2.2 r hr).rd.below hb0))
  have x0 := (Blk.new w 49 #[.slice A n c, .int .i64 room, .int .i64 lost]).alloc (.cells #[.slice A2 n2 c2, .int .i64 room, .int .i64 lost2] 49)
  have x1 := Blk.new (w.alloc (.cells #[.slice A n c, .int .i64 room, .int .i64 lost] 49)) 49 #[.slice A2 n2 c2, .int .i64 room, .int .i64 lost2]
  simp only [World.size_alloc] at x1
  have X0 := Lib.hid x0
  have X1 := Lib.hid x1
  clear hW hV hb0 x0 x1
  by_cases hm : msL ws = msL ss
  case neg =>
    rw [show sameFl lost lost2 (msL ws) (msL ss) = false by simp [sameFl, hm]]
    rw [show decide (msL ws = msL ss) = false by simp [hm]] at HEQ
    clear hm
    go_enter Try.func29, Try.ntmps29
    go_wp2_with fail
    refine HEQ.out.mono ?_
    rintro e w3 ⟨rfl, b3⟩
    go_wp2_with fail
    go_ret
    exact ⟨rfl, bnext HB.out b3⟩
  rw [show decide (msL ws = msL ss) = true by simp [hm]] at HEQ
  by_cases hl : lost = lost2
  case neg =>
    rw [show sameFl lost lost2 (msL ws) (msL ss) = false by simp [sameFl, hl]]
    have h1 : ((lost : Int) == lost2) = false := by rw [beq_eq_false_iff_ne]; omega
    have h2 : (lost == lost2) = false := by rw [beq_eq_false_iff_ne]; omega
    have h3 : decide (lost = lost2) = false := decide_eq_false hl
    clear hm
    go_enter Try.func29, Try.ntmps29
    go_wp2_with fail
    refine HEQ.out.mono ?_
    rintro e w3 ⟨rfl, b3⟩
    obtain ⟨d0, d1, d2⟩ := (X0.out.below b3 X0.out.lt).three
    obtain ⟨z0, z1, z2⟩ := (X1.out.below b3 X1.out.lt).three
    go_wp2_with fail
    go_ret
    exact ⟨rfl, bnext HB.out b3⟩
  subst hl
  rw [show sameFl lost lost (msL ws) (msL ss) = true by simp [sameFl, hm]]
  have h1 : ((lost : Int) == lost) = true := by simp
  clear hm
  go_enter Try.func29, Try.ntmps29
  go_wp2_with fail
  refine HEQ.out.mono ?_
  rintro e w3 ⟨rfl, b3⟩
  obtain ⟨d0, d1, d2⟩ := (X0.out.below b3 X0.out.lt).three
  obtain ⟨z0, z1, z2⟩ := (X1.out.below b3 X1.out.lt).three
  go_wp2_with fail
  go_ret
  exact ⟨rfl, bnext HB.out b3⟩
end Go.Proofs.Ytgdkobknjgbdbaa
