/- prefix: Stands; the document's. -/
import Derived.Test.YtfgbliglgdkgpaaDoorPfxG
import Derived.Test.YtfgbliglgdkgpaaDoorEq
namespace Go.Proofs.YtfgbliglgdkgpaaDoor
set_option linter.unusedVariables false
set_option linter.unusedSimpArgs false
open Go.RowKit
set_option maxRecDepth 100000
/-- what prefix.rels holds -/
def RelsAt (w : World) : Prop := w.cell? ⟨0, 0, none⟩ = some (.int .i64 4) ∧ w.cell? ⟨0, 1, none⟩ = some (.int .i64 2) ∧ w.cell? ⟨0, 2, none⟩ = some (.int .i64 3) ∧ w.cell? ⟨0, 3, none⟩ = some (.int .i64 1)
theorem RelsAt.below {w w' : World} (h : RelsAt w) (hb : Below w.heap.size w w') : RelsAt w' :=
  ⟨(hb.cell (cell_lt h.1)).trans h.1, (hb.cell (cell_lt h.2.1)).trans h.2.1, (hb.cell (cell_lt h.2.2.1)).trans h.2.2.1, (hb.cell (cell_lt h.2.2.2)).trans h.2.2.2⟩
theorem RelsAt.drewN {w : World} (h : RelsAt w) (n : Nat) : RelsAt (w.drewN n) := h
/-- is the second one within the first one, or the same? -/
def hldF (p q : Nat × Int) : Bool := decide (p.2 ≤ q.2) && hasF p q.1
def standsF (p q : Nat × Int) : Nat := if hldF p q then (if hldF q p then 1 else 3) else (if hldF q p then 2 else 4)

set_option maxHeartbeats 1000000 in
theorem holds_any (a k b m : Nat) (w : World) (hk : k ≤ 32) (hz : a % 2 ^ (32 - k) = 0) (hb : b < 4294967296) :
    Calls Tryd.prog 56 #[.agg #[.int .u32 a, .int .i64 k], .agg #[.int .u32 b, .int .i64 m]] w fun e w' => e = .returned (.int .i64 (if hldF (a, (k : Int)) (b, (m : Int)) then 1 else 0)) ∧ Below w.heap.size w w' := by
  have hk0 : (0 : Int) ≤ (k : Int) := by omega
  have hok : okP (a, (k : Int)) = true := by simp only [okP, Int.toNat_natCast]; exact decide_eq_true ⟨by omega, by omega, hz⟩
  by_cases hle : k ≤ m
  · have hf : hldF (a, (k : Int)) (b, (m : Int)) = decide (b / 2 ^ (32 - k) = a / 2 ^ (32 - k)) := by
      unfold hldF hasF
      rw [hok]
      simp [hle]
    have hbit := and_mask_i b k hb hk
    have hcmp := mask_test b a k hz
    have hge : decide (k ≤ m) = true := decide_eq_true hle
    rw [hf]
    clear hok hz hf hle
    generalize b / 2 ^ (32 - k) * 2 ^ (32 - k) = q at *
    cases hr : decide (b / 2 ^ (32 - k) = a / 2 ^ (32 - k))
    all_goals
      rw [hr] at hcmp
      clear hr
      simp only [Bool.false_eq_true, if_true, if_false]
      go_enter Tryd.func56, Tryd.ntmps56
      go_wp2
      go_quiet ((go_at_call 60; exact q_same (mask_any _ _ (by omega) (by omega))))
      go_wp2
      go_ret
      exact ⟨rfl, below_drewN (balloc (balloc (Below.refl _ _) _) _) _⟩
  · have hf : hldF (a, (k : Int)) (b, (m : Int)) = false := by
      unfold hldF
      simp [hle]
    have hge : decide (k ≤ m) = false := decide_eq_false hle
    rw [hf]
    clear hok hz hf hle
    simp only [Bool.false_eq_true, if_false]
    go_enter Tryd.func56, Tryd.ntmps56
    go_wp2
    go_quiet (fail)
    go_wp2
    go_ret
    exact ⟨rfl, below_drewN (balloc (balloc (Below.refl _ _) _) _) _⟩

/-- the cells that Stands reads -/
abbrev StS (g a k b m : Nat) (w : World) : Prop := w.cell? ⟨g, 0, none⟩ = some (.int .u32 a) ∧ w.cell? ⟨g, 1, none⟩ = some (.int .i64 k) ∧ w.cell? ⟨g + 1, 0, none⟩ = some (.int .u32 b) ∧ w.cell? ⟨g + 1, 1, none⟩ = some (.int .i64 m) ∧ w.cell? ⟨0, 0, none⟩ = some (.int .i64 4) ∧ w.cell? ⟨0, 1, none⟩ = some (.int .i64 2) ∧ w.cell? ⟨0, 2, none⟩ = some (.int .i64 3) ∧ w.cell? ⟨0, 3, none⟩ = some (.int .i64 1)
theorem StS.below {g a k b m : Nat} {w w' : World} (s : StS g a k b m w) (h : Below w.heap.size w w') : StS g a k b m w' := by
  obtain ⟨h0, h1, h2, h3, h4, h5, h6, h7⟩ := s
  exact ⟨(h.cell (cell_lt h0)).trans h0, (h.cell (cell_lt h1)).trans h1, (h.cell (cell_lt h2)).trans h2, (h.cell (cell_lt h3)).trans h3, (h.cell (cell_lt h4)).trans h4, (h.cell (cell_lt h5)).trans h5, (h.cell (cell_lt h6)).trans h6, (h.cell (cell_lt h7)).trans h7⟩
theorem maybe2 (a : Nat) (n : Int) (b : Nat) (m : Int) (g : Nat) (ha : a < 4294967296) (hb : b < 4294967296) (W : World) (h : Rd W W.heap.size (some ⟨g, 0, none⟩) ([(a, n), (b, m)].flatMap pfxC)) :
    Calls Tryd.prog 55 #[.slice (some ⟨g, 0, none⟩) 2 2] W fun e w' => e = .returned (.bool (okP (a, n) && okP (b, m))) ∧ Below W.heap.size W w' :=
  (mayBe_any [(a, n), (b, m)] _ 2 W h (by simpa using ⟨ha, hb⟩) (by simp)).mono fun e w' ⟨he, hb⟩ => ⟨by rw [he]; simp, hb⟩

set_option maxHeartbeats 4000000 in
theorem stands_any (a k b m : Nat) (w : World) (ha : a < 4294967296) (hb : b < 4294967296) (hk : k ≤ 32) (hm : m ≤ 32) (hz : a % 2 ^ (32 - k) = 0) (hy : b % 2 ^ (32 - m) = 0) (hR : RelsAt w) :
    Calls Tryd.prog 34 #[.agg #[.int .u32 a, .int .i64 k], .agg #[.int .u32 b, .int .i64 m]] w fun e w' => e = .returned (.tuple #[.int .i64 (standsF (a, (k : Int)) (b, (m : Int))), .int .i64 0]) ∧ Below w.heap.size w w' := by
  have HM := Lib.hid (fun W h => maybe2 a k b m (w.heap.size + 2) ha hb W h)
  rw [show okP (a, (k : Int)) = true by simp only [okP, Int.toNat_natCast]; exact decide_eq_true ⟨by omega, by omega, hz⟩, show okP (b, (m : Int)) = true by simp only [okP, Int.toNat_natCast]; exact decide_eq_true ⟨by omega, by omega, hy⟩] at HM
  have H1 := Lib.hid (fun W => holds_any a k b m W hk hz hb)
  have H2 := Lib.hid (fun W => holds_any b m a k W hm hy ha)
  have HB := Lib.hid (show Below w.heap.size w (((w.alloc (.cells #[.int .u32 a, .int .i64 k] 33)).alloc (.cells #[.int .u32 b, .int .i64 m] 33)).alloc (.cells #[.int .u32 a, .int .i64 k, .int .u32 b, .int .i64 m] 33)) from balloc (balloc (balloc (Below.refl _ _) _) _) _)
  have HR := Lib.hid hR
  have X1 := Lib.hid (((Blk.new w 33 #[.int .u32 a, .int .i64 k]).alloc (.cells #[.int .u32 b, .int .i64 m] 33)).alloc (.cells #[.int .u32 a, .int .i64 k, .int .u32 b, .int .i64 m] 33))
  have x2 := (Blk.new (w.alloc (.cells #[.int .u32 a, .int .i64 k] 33)) 33 #[.int .u32 b, .int .i64 m]).alloc (.cells #[.int .u32 a, .int .i64 k, .int .u32 b, .int .i64 m] 33)
  rw [World.size_alloc] at x2
  have X2 := Lib.hid x2
  clear hR x2 hz hy
  unfold standsF
  cases h1 : hldF (a, (k : Int)) (b, (m : Int)) <;> cases h2 : hldF (b, (m : Int)) (a, (k : Int))
  all_goals
    rw [h1] at H1
    rw [h2] at H2
    simp only [Bool.false_eq_true, if_true, if_false] at H1 H2 ⊢
    clear h1 h2
    go_enter Tryd.func34, Tryd.ntmps34
    go_wp2_with fail
    refine scope_fwd 0 rfl ?_
    go_wp2_with fail
    refine (HM.out _ ?_).mono ?_
    · have := Rd.newL ((w.alloc (.cells #[.int .u32 a, .int .i64 k] 33)).alloc (.cells #[.int .u32 b, .int .i64 m] 33)) 33 #[.int .u32 a, .int .i64 k, .int .u32 b, .int .i64 m] ([(a, (k : Int)), (b, (m : Int))].flatMap pfxC) rfl
      simpa using this
    rintro e w1 ⟨rfl, b1⟩
    have K1 := X1.out.below b1 X1.out.lt
    have K2 := X2.out.below b1 X2.out.lt
    have c1 := bnext HB.out b1
    have r1 := HR.out.below c1
    obtain ⟨g0, g1, g2, g3⟩ := r1
    have gl := cell_lt g0
    have d0 := (K1).cell 0
    have d1 := (K1).cell 1
    simp only [List.getElem?_toArray, List.getElem?_cons_zero, List.getElem?_cons_succ] at d0 d1
    have f0 := (K2).cell 0
    have f1 := (K2).cell 1
    simp only [List.getElem?_toArray, List.getElem?_cons_zero, List.getElem?_cons_succ] at f0 f1
    have s0 : StS w.heap.size a k b m w1.drew := ⟨d0, d1, f0, f1, g0, g1, g2, g3⟩
    clear b1 K1 K2 d0 d1 g1 g2 g3
    go_wp2_with fail
    go_region_held3 (fun w' => StS w.heap.size a k b m w') (first | exact s0 | exact sb | exact sa)
      (first
      | (go_at_call 56; (with_reducible refine (H1.out w1.drew).mono ?_); rintro e wa ⟨rfl, ba⟩; have sa := s0.below ba)
      | (go_at_call 56; (with_reducible refine (H2.out w1.drew).mono ?_); rintro e wa ⟨rfl, ba⟩; have sa := s0.below ba)
      | (go_at_call 56; (with_reducible refine (H1.out wa).mono ?_); rintro e wb ⟨rfl, bb⟩; have sb := sa.below bb)
      | (go_at_call 56; (with_reducible refine (H2.out wa).mono ?_); rintro e wb ⟨rfl, bb⟩; have sb := sa.below bb))
    all_goals
      go_wp2_with fail
      rw [jump_ret]
      go_ret2
      exact ⟨rfl, bnext (bnext (below_drewN c1 1) ba) bb⟩
end Go.Proofs.YtfgbliglgdkgpaaDoor
