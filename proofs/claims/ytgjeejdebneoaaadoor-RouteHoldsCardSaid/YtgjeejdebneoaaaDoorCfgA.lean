/- ref08: Right, clamped, Wait, Quiet, Bound. -/
import Derived.Test.YtgjeejdebneoaaaDoorCfg9
namespace Go.Proofs.YtgjeejdebneoaaaDoor
set_option linter.unusedVariables false
set_option linter.unusedSimpArgs false
open Go.RowKit
set_option maxRecDepth 100000

set_option maxHeartbeats 1000000 in
theorem rspans_any (p j t h g q s cp : Int) (A : Option Addr) (n k : Nat) (w : World) :
    Calls Tryd.prog 50 #[.agg #[.int .i64 p, .int .i64 j, .int .i64 t, .int .i64 h, .int .i64 g, .int .i64 q, .int .i64 s, .int .i64 cp, .slice A n k]] w fun e w' => e = .returned (.agg #[.int .i64 p, .int .i64 j, .int .i64 t, .int .i64 h, .int .i64 g, .int .i64 q, .int .i64 s]) ∧ Below w.heap.size w w' := by
  go_enter Tryd.func50, Tryd.ntmps50
  go_wp2
  go_returns
  exact ⟨rfl, by go_grown⟩

theorem spans_cell (p j t h g q s : Int) (c : Nat) (hc : c < 7) : (#[.int .i64 p, .int .i64 j, .int .i64 t, .int .i64 h, .int .i64 g, .int .i64 q, .int .i64 s] : Array Value)[c]? = some (.int .i64 (spanS c p j t h g q s)) := by
  rcases (by omega : c = 0 ∨ c = 1 ∨ c = 2 ∨ c = 3 ∨ c = 4 ∨ c = 5 ∨ c = 6) with rfl | rfl | rfl | rfl | rfl | rfl | rfl <;> rfl
theorem okC_right {p j t h g q s cp : Int} {l : List (Nat × Int)} (h1 : ∀ i, i < 7 → 0 ≤ spanS i p j t h g q s ∧ spanS i p j t h g q s ≤ 1000000) :
    okC p j t h g q s cp l = (decide (1 ≤ p) && decide (1 ≤ t) && decide (1 ≤ g) && decide (1 ≤ cp) && decide (cp ≤ 256) && decide ((l.length : Int) ≤ cp) && (decide (l.length ≤ 16) && okOwn l)) := by
  have k0 := h1 0 (by omega)
  have k1 := h1 1 (by omega)
  have k2 := h1 2 (by omega)
  have k3 := h1 3 (by omega)
  have k4 := h1 4 (by omega)
  have k5 := h1 5 (by omega)
  have k6 := h1 6 (by omega)
  simp only [spanS] at k0 k1 k2 k3 k4 k5 k6
  have hall : (List.range 7).all (fun i => okS i p j t h g q s) = (decide (1 ≤ p) && decide (1 ≤ t) && decide (1 ≤ g)) := by
    rw [Bool.eq_iff_iff]
    simp only [List.all_eq_true, List.mem_range, Bool.and_eq_true, decide_eq_true_eq]
    constructor
    · intro hh
      have a0 := of_decide_eq_true (hh 0 (by omega))
      have a2 := of_decide_eq_true (hh 2 (by omega))
      have a4 := of_decide_eq_true (hh 4 (by omega))
      simp only [spanS, lstS] at a0 a2 a4
      exact ⟨⟨a0.1, a2.1⟩, a4.1⟩
    · rintro ⟨⟨a, b⟩, c⟩ i hi
      rcases (by omega : i = 0 ∨ i = 1 ∨ i = 2 ∨ i = 3 ∨ i = 4 ∨ i = 5 ∨ i = 6) with rfl | rfl | rfl | rfl | rfl | rfl | rfl <;> exact decide_eq_true (by simp only [spanS, lstS]; omega)
  unfold okC
  rw [hall, Bool.eq_iff_iff]
  simp only [Bool.and_eq_true, decide_eq_true_eq]
  constructor
  · rintro ⟨⟨⟨⟨⟨a, b⟩, c⟩, d, e⟩, f, gg⟩, hh⟩
    exact ⟨⟨⟨⟨⟨⟨a, b⟩, c⟩, d⟩, e⟩, gg⟩, by omega, hh⟩
  · rintro ⟨⟨⟨⟨⟨⟨a, b⟩, c⟩, d⟩, e⟩, gg⟩, f, hh⟩
    exact ⟨⟨⟨⟨⟨a, b⟩, c⟩, d, e⟩, by omega, gg⟩, hh⟩
theorem okC_span0 {p j t h g q s cp : Int} {l : List (Nat × Int)} {i : Nat} (hi : i < 7) (ho : ¬ (0 ≤ spanS i p j t h g q s ∧ spanS i p j t h g q s ≤ 1000000)) : okC p j t h g q s cp l = false := by
  refine okC_span hi (decide_eq_false ?_)
  have h3 : 0 ≤ lstS i := by unfold lstS; split <;> omega
  omega

set_option maxHeartbeats 4000000 in
theorem right8_any (p j t h g q s cp : Int) (A : Option Addr) (n k B : Nat) (l : List (Nat × Int)) (hn : l.length = n) (w : World) (hr : Rd w B A (plC l)) (hB : B ≤ w.heap.size) (hnk : n ≤ k) (hk : k ≤ 9223372036854775807) (hl : ∀ x ∈ l, x.1 < 4294967296) :
    Calls Tryd.prog 28 #[.agg #[.int .i64 p, .int .i64 j, .int .i64 t, .int .i64 h, .int .i64 g, .int .i64 q, .int .i64 s, .int .i64 cp, .slice A n k]] w fun e w' => e = .returned (.bool (okC p j t h g q s cp l)) ∧ Below w.heap.size w w' := by
  have HOW := Lib.hid (fun W (hb : Below w.heap.size w W) => rown_any l n hn A k B W (hr.below (hb.mono hB)) (by have := hb.size; omega) hnk hk hl)
  have HN := Lib.hid hn
  clear hr hn hl
  go_enter Tryd.func28, Tryd.ntmps28
  go_wp2_with fail
  refine (rspans_any p j t h g q s cp A n k _).mono ?_
  rintro e w1 ⟨rfl, hb⟩
  have hK := ((Blk.new w 24 #[.int .i64 p, .int .i64 j, .int .i64 t, .int .i64 h, .int .i64 g, .int .i64 q, .int .i64 s, .int .i64 cp, .slice A n k]).below hb (by simp)).alloc (.cells #[.int .i64 p, .int .i64 j, .int .i64 t, .int .i64 h, .int .i64 g, .int .i64 q, .int .i64 s] 90)
  have hS := Blk.new w1 90 #[.int .i64 p, .int .i64 j, .int .i64 t, .int .i64 h, .int .i64 g, .int .i64 q, .int .i64 s]
  have hb1 := balloc (bnext (balloc (Below.refl _ w) _) hb) (.cells #[.int .i64 p, .int .i64 j, .int .i64 t, .int .i64 h, .int .i64 g, .int .i64 q, .int .i64 s] 90)
  have hsz := (Blk.new w 24 #[.int .i64 p, .int .i64 j, .int .i64 t, .int .i64 h, .int .i64 g, .int .i64 q, .int .i64 s, .int .i64 cp, .slice A n k]).below hb (by simp) |>.lt
  clear hb
  go_wp2_with fail
  obtain ⟨w0, hw0⟩ : ∃ w0, w0 = w1.alloc (.cells #[.int .i64 p, .int .i64 j, .int .i64 t, .int .i64 h, .int .i64 g, .int .i64 q, .int .i64 s] 90) := ⟨_, rfl⟩
  rw [← hw0] at hK hS hb1 ⊢
  clear hw0
  go_loopw [4] (fun i wr => ∃ c : Nat, c ≤ 7 ∧ i = .int .i64 c ∧ wr = w0 ∧ ∀ i, i < c → 0 ≤ spanS i p j t h g q s ∧ spanS i p j t h g q s ≤ 1000000) (fun i _ => 7 - (intOf i).toNat)
  case atStart => exact ⟨0, by omega, rfl, rfl, fun i hi => by omega⟩
  case round =>
    obtain ⟨c, hc, rfl, rfl, hok⟩ := hrel
    have HO := Lib.hid hok
    clear hok
    by_cases hlt : c < 7
    · have a0 := hS.cell c
      rw [spans_cell p j t h g q s c hlt] at a0
      have HSB := Lib.hid (@okC_span0 p j t h g q s cp l c hlt)
      have hy : (0 ≤ spanS c p j t h g q s ∧ spanS c p j t h g q s ≤ 1000000) → ∀ i, i < c + 1 → 0 ≤ spanS i p j t h g q s ∧ spanS i p j t h g q s ≤ 1000000 := fun h2 i hi => by
        by_cases hic : i < c
        · exact HO.out i hic
        · obtain rfl : i = c := by omega
          exact h2
      have HY := Lib.hid hy
      have hcall := fun W => rspan_any (spanS c p j t h g q s) W
      clear hy
      generalize spanS c p j t h g q s = sp at *
      by_cases hb2 : 0 ≤ sp ∧ sp ≤ 1000000
      · simp only [decide_eq_true hb2] at hcall
        have CC := Lib.hid hcall
        have HX := Lib.hid hb2
        clear hcall hb2
        go_wp2_with (go_at_call 51; refine (CC.out _).mono ?_; rintro e w' ⟨rfl, rfl⟩)
        go_roundw
        case rel => exact ⟨c + 1, by omega, by go_num, by first | trivial | rfl, HY.out HX.out⟩
        case measure => simp [intOf]; omega
      · simp only [decide_eq_false hb2] at hcall
        have CC := Lib.hid hcall
        have HX := Lib.hid hb2
        clear hcall hb2
        go_wp2_with (go_at_call 51; refine (CC.out _).mono ?_; rintro e w' ⟨rfl, rfl⟩)
        go_ret
        exact ⟨ret_bool (HSB.out HX.out).symm, hb1⟩
    · obtain rfl : c = 7 := by omega
      have hV := okC_right (cp := cp) (l := l) HO.out
      rw [HN.out] at hV
      have HOW2 := Lib.hid (HOW.out _ hb1)
      have hw2 : (decide (n ≤ 16) && okOwn l) = (decide (n ≤ 16) && okOwn l) := rfl
      generalize (decide (n ≤ 16) && okOwn l) = ow at *
      have HV := Lib.hid hV
      have c0 := (hK).cell 0
      have c1 := (hK).cell 1
      have c2 := (hK).cell 2
      have c3 := (hK).cell 3
      have c4 := (hK).cell 4
      have c5 := (hK).cell 5
      have c6 := (hK).cell 6
      have c7 := (hK).cell 7
      have c8 := (hK).cell 8
      simp only [List.getElem?_toArray, List.getElem?_cons_zero, List.getElem?_cons_succ] at c0 c1 c2 c3 c4 c5 c6 c7 c8
      clear HO HOW hV hS hw2
      rcases (by omega : ¬ 1 ≤ p ∨ (1 ≤ p ∧ ¬ 1 ≤ t) ∨ (1 ≤ p ∧ 1 ≤ t ∧ ¬ 1 ≤ g) ∨ (1 ≤ p ∧ 1 ≤ t ∧ 1 ≤ g ∧ ¬ 1 ≤ cp) ∨ (1 ≤ p ∧ 1 ≤ t ∧ 1 ≤ g ∧ 1 ≤ cp ∧ ¬ cp ≤ 256) ∨ (1 ≤ p ∧ 1 ≤ t ∧ 1 ≤ g ∧ 1 ≤ cp ∧ cp ≤ 256 ∧ ¬ (n : Int) ≤ cp) ∨ (1 ≤ p ∧ 1 ≤ t ∧ 1 ≤ g ∧ 1 ≤ cp ∧ cp ≤ 256 ∧ (n : Int) ≤ cp)) with h1 | ⟨h1, h2⟩ | ⟨h1, h2, h3⟩ | ⟨h1, h2, h3, h4⟩ | ⟨h1, h2, h3, h4, h5⟩ | ⟨h1, h2, h3, h4, h5, h6⟩ | ⟨h1, h2, h3, h4, h5, h6⟩
      all_goals
        go_wp2_with (first | (go_at_call 52; refine HOW2.out.mono ?_; rintro e w2 ⟨rfl, hb2⟩))
        go_ret
        refine ⟨ret_bool ?_, by first | exact hb1 | exact bnext hb1 hb2⟩
        rw [HV.out]
        first | (rw [decide_eq_true h1, decide_eq_true h2, decide_eq_true h3, decide_eq_true h4, decide_eq_true h5, decide_eq_true h6]; simp; done) | (rw [show decide (1 ≤ p) = false from decide_eq_false (by omega)]; simp; done) | (rw [show decide (1 ≤ t) = false from decide_eq_false (by omega)]; simp; done) | (rw [show decide (1 ≤ g) = false from decide_eq_false (by omega)]; simp; done) | (rw [show decide (1 ≤ cp) = false from decide_eq_false (by omega)]; simp; done) | (rw [show decide (cp ≤ 256) = false from decide_eq_false (by omega)]; simp; done) | (rw [show decide ((n : Int) ≤ cp) = false from decide_eq_false (by omega)]; simp; done)

end Go.Proofs.YtgjeejdebneoaaaDoor
