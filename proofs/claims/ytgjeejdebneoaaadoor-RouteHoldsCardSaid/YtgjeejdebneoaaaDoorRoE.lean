/- route: the document's Life; == of turns; what Life hands on. -/
import Derived.Test.YtgjeejdebneoaaaDoorRoD
import Derived.Test.YtgjeejdebneoaaaDoorRo8
import Derived.Test.YtgjeejdebneoaaaDoorRng
import Derived.Test.YtgjeejdebneoaaaDoorRngQ
import Derived.Deep.CutRange
namespace Go.Proofs.YtgjeejdebneoaaaDoor
set_option linter.unusedVariables false
set_option linter.unusedSimpArgs false
open Go.RowKit
set_option maxRecDepth 100000
theorem okR_tim (a : Nat) (m st me lo fa : Int) (nx : Nat) (du : Int) (ch : Bool) (q : okR a m st me lo fa nx du ch = true) (h2 : 2 ≤ st) : timF st = true ∧ 0 ≤ du ∧ 0 ≤ st ∧ st ≤ 4 := by
  have hst : 0 ≤ st ∧ st ≤ 4 := Classical.byContradiction fun hc => by rw [okR_st a m st me lo fa nx du ch hc] at q; cases q
  have q1 := (Bool.and_eq_true_iff.1 q).1
  have hs : somF fa nx du = true → 0 ≤ du := fun e => (of_decide_eq_true (Bool.and_eq_true_iff.1 e).2 : 0 ≤ du ∧ _).1
  rcases (by omega : st = 2 ∨ st = 3 ∨ st = 4) with rfl | rfl | rfl
  · exact ⟨rfl, hs (Bool.and_eq_true_iff.1 (show s2F me lo fa nx du = true from q1)).2, by omega, by omega⟩
  · exact ⟨rfl, hs (Bool.and_eq_true_iff.1 (show s3F me lo fa nx du = true from q1)).2, by omega, by omega⟩
  · exact ⟨rfl, hs (Bool.and_eq_true_iff.1 (show s4F me lo fa nx du = true from q1)).2, by omega, by omega⟩

set_option maxHeartbeats 4000000 in
theorem rlife_any (p j t h g q s cp : Int) (A : Option Addr) (n k B : Nat) (l : List (Nat × Int)) (hn : l.length = n) (a : Nat) (m st me lo fa : Int) (nx : Nat) (du : Int) (ch : Bool) (w : World) (hr : Rd w B A (plC l)) (hB : B ≤ w.heap.size) (hnk : n ≤ k) (hk : k ≤ 9223372036854775807) (hl : ∀ x ∈ l, x.1 < 4294967296) (ha : a < 4294967296) (hx : nx < 4294967296) :
    Calls Tryd.prog 14 #[.agg #[.int .i64 p, .int .i64 j, .int .i64 t, .int .i64 h, .int .i64 g, .int .i64 q, .int .i64 s, .int .i64 cp, .slice A n k], .agg #[.int .u32 a, .int .i64 m, .int .i64 st, .int .i64 me, .int .i64 lo, .int .i64 fa, .int .u32 nx, .int .i64 du, .bool ch]] w fun e w' => ∃ A1 c1, e = .returned (.slice A1 (lifeS h g (okC p j t h g q s cp l) 3 ⟨a, m, st, me, lo, fa, nx, du, ch⟩).length c1) ∧ (lifeS h g (okC p j t h g q s cp l) 3 ⟨a, m, st, me, lo, fa, nx, du, ch⟩).length ≤ c1 ∧ c1 ≤ maxLen ∧ Rd w' w'.heap.size A1 (stC (lifeS h g (okC p j t h g q s cp l) 3 ⟨a, m, st, me, lo, fa, nx, du, ch⟩)) ∧ Below w.heap.size w w' := by
  obtain ⟨i0, hi0, hz0, hz1, hz2⟩ := info_parts turn_info
  have HC := Lib.hid (fun W (hW : Below w.heap.size w W) => right8_any p j t h g q s cp A n k B l hn W (hr.below (hW.mono hB)) (by have := hW.size; omega) hnk hk hl)
  have HR := Lib.hid (fun (a1 : Nat) (m1 st1 me1 lo1 fa1 : Int) (nx1 : Nat) (du1 : Int) (ch1 : Bool) W (ha1 : a1 < 4294967296) (hx1 : nx1 < 4294967296) => rright_any a1 m1 st1 me1 lo1 fa1 nx1 du1 ch1 W ha1 hx1)
  have HX := Lib.hid (fun (a1 : Nat) (m1 st1 me1 lo1 fa1 : Int) (nx1 : Nat) (du1 : Int) (ch1 : Bool) W q1 q2 q3 => rexp_any p j t h g q s cp A n k a1 m1 st1 me1 lo1 fa1 nx1 du1 ch1 du1 W q1 q2 q3)
  have AN := Lib.hid (And.intro ha hx)
  have hbd := Lib.hid (fun hok => okC_bounds (p := p) (j := j) (t := t) (h := h) (g := g) (q := q) (s := s) (cp := cp) (l := l) hok)
  clear hr hl hn hB hnk ha hx
  generalize okC p j t h g q s cp l = oc at *
  have z0 := (Blk.new w 24 #[.int .i64 p, .int .i64 j, .int .i64 t, .int .i64 h, .int .i64 g, .int .i64 q, .int .i64 s, .int .i64 cp, .slice A n k]).alloc (.cells #[.int .u32 a, .int .i64 m, .int .i64 st, .int .i64 me, .int .i64 lo, .int .i64 fa, .int .u32 nx, .int .i64 du, .bool ch] 31)
  have z1 := Blk.new (w.alloc (.cells #[.int .i64 p, .int .i64 j, .int .i64 t, .int .i64 h, .int .i64 g, .int .i64 q, .int .i64 s, .int .i64 cp, .slice A n k] 24)) 31 #[.int .u32 a, .int .i64 m, .int .i64 st, .int .i64 me, .int .i64 lo, .int .i64 fa, .int .u32 nx, .int .i64 du, .bool ch]
  simp only [World.size_alloc] at z1
  have B0 : Below w.heap.size w ((w.alloc (.cells #[.int .i64 p, .int .i64 j, .int .i64 t, .int .i64 h, .int .i64 g, .int .i64 q, .int .i64 s, .int .i64 cp, .slice A n k] 24)).alloc (.cells #[.int .u32 a, .int .i64 m, .int .i64 st, .int .i64 me, .int .i64 lo, .int .i64 fa, .int .u32 nx, .int .i64 du, .bool ch] 31)) := balloc (balloc (Below.refl _ _) _) _
  have ZZ := Lib.hid (And.intro z0 (And.intro z1 B0))
  clear z0 z1 B0
  go_enter Tryd.func14, Tryd.ntmps14
  go_wp2_with fail
  generalize ((w.alloc (.cells #[.int .i64 p, .int .i64 j, .int .i64 t, .int .i64 h, .int .i64 g, .int .i64 q, .int .i64 s, .int .i64 cp, .slice A n k] 24)).alloc (.cells #[.int .u32 a, .int .i64 m, .int .i64 st, .int .i64 me, .int .i64 lo, .int .i64 fa, .int .u32 nx, .int .i64 du, .bool ch] 31)) = W0 at *
  go_loopw [5, 6] (fun vv i wr => ∃ (a1 : Nat) (m1 st1 me1 lo1 fa1 : Int) (nx1 : Nat) (du1 : Int) (ch1 : Bool) (ys : List (Int × Rt)) (kk : Nat) (v : Value),
      v = vv ∧ i = .int .i64 ys.length ∧ ys.length + kk = 3 ∧ Blk wr (w.heap.size + 1) 31 #[.int .u32 a1, .int .i64 m1, .int .i64 st1, .int .i64 me1, .int .i64 lo1, .int .i64 fa1, .int .u32 nx1, .int .i64 du1, .bool ch1] ∧ wr.ownsRow (w.heap.size + 2) 49 10 v ys.length (stC ys) ∧ Blk wr w.heap.size 24 #[.int .i64 p, .int .i64 j, .int .i64 t, .int .i64 h, .int .i64 g, .int .i64 q, .int .i64 s, .int .i64 cp, .slice A n k] ∧ Below w.heap.size w wr ∧
      a1 < 4294967296 ∧ nx1 < 4294967296 ∧ Hid (lifeS h g oc 3 ⟨a, m, st, me, lo, fa, nx, du, ch⟩ = ys ++ lifeS h g oc kk ⟨a1, m1, st1, me1, lo1, fa1, nx1, du1, ch1⟩)) (fun _ i _ => 3 - (intOf i).toNat)
  case atStart =>
    exact ⟨a, m, st, me, lo, fa, nx, du, ch, [], 3, _, rfl, rfl, rfl, ZZ.out.2.1, World.ownsRow_nil _ _ _ _, ZZ.out.1, ZZ.out.2.2, AN.out.1, AN.out.2, Lib.hid rfl⟩
  case round =>
    obtain ⟨a1, m1, st1, me1, lo1, fa1, nx1, du1, ch1, ys, kk, v, rfl, rfl, hkk, yr, yo, yc, BB, ha1, hx1, HF⟩ := hrel
    have hYL := Lib.hid (show ys.length + kk = 3 from hkk)
    by_cases hlt : ys.length < 3
    case neg =>
      have d1 : decide ((ys.length : Int) < 3) = false := by simp; omega
      have hk0 : Hid (kk = 0) := Lib.hid (by omega)
      have Y := Lib.hid (And.intro yo BB)
      clear hkk hlt yr yc yo BB
      go_wp2_with fail
      obtain ⟨yo, BB⟩ := Y.out
      go_ret
      have hys : lifeS h g oc 3 ⟨a, m, st, me, lo, fa, nx, du, ch⟩ = ys := by
        rw [HF.out, hk0.out]; exact List.append_nil _
      obtain ⟨A1, c1, rfl, h1, h2, h3, _⟩ := own_row yo
      rw [hys]
      exact ⟨A1, c1, rfl, h1, h2, h3, BB⟩
    have d1 : decide ((ys.length : Int) < 3) = true := by simp; omega
    have HLT := Lib.hid hlt
    clear hkk hlt
    have HC1 := Lib.hid (HC.out wr BB)
    have HR1 := Lib.hid (fun W => HR.out a1 m1 st1 me1 lo1 fa1 nx1 du1 ch1 W ha1 hx1)
    have Y := Lib.hid (And.intro yr (And.intro yo (And.intro yc (And.intro BB (And.intro ha1 hx1)))))
    have k0 := (yc).cell 0
    have k1 := (yc).cell 1
    have k2 := (yc).cell 2
    have k3 := (yc).cell 3
    have k4 := (yc).cell 4
    have k5 := (yc).cell 5
    have k6 := (yc).cell 6
    have k7 := (yc).cell 7
    have k8 := (yc).cell 8
    simp only [List.getElem?_toArray, List.getElem?_cons_zero, List.getElem?_cons_succ] at k0 k1 k2 k3 k4 k5 k6 k7 k8
    clear yr yo yc BB ha1 hx1
    rcases (show oc = false ∨ oc = true by cases oc <;> simp) with hoc | hoc
    case inl =>
      rw [hoc] at HC1
      have HO := Lib.hid hoc
      clear hoc
      go_wp2_with fail
      refine HC1.out.mono ?_
      rintro e w1 ⟨rfl, b1⟩
      obtain ⟨yr, yo, yc, BB, ha1, hx1⟩ := Y.out
      replace yo := own_bel yo b1
      replace BB := bnext BB b1
      clear yr yc b1
      go_wp2_with fail
      go_ret
      have hys : lifeS h g oc 3 ⟨a, m, st, me, lo, fa, nx, du, ch⟩ = ys := by
        rw [HF.out, lifeS_no (by rintro ⟨_, e⟩; rw [HO.out] at e; exact absurd (show (2 : Int) = 0 from e) (by decide)), List.append_nil]
      obtain ⟨A1, c1, rfl, h1, h2, h3, _⟩ := own_row yo
      rw [hys]
      exact ⟨A1, c1, rfl, h1, h2, h3, BB⟩
    rw [hoc] at HC1
    have HO := Lib.hid hoc
    clear hoc
    have hok0 : ∃ x, x = okR a1 m1 st1 me1 lo1 fa1 nx1 du1 ch1 := ⟨_, rfl⟩
    obtain ⟨ok, hok⟩ := hok0
    rw [← hok] at HR1
    have HOK := Lib.hid hok
    clear hok
    cases ok
    case false =>
      go_wp2_with fail
      refine HC1.out.mono ?_
      rintro e w1 ⟨rfl, b1⟩
      obtain ⟨yr, yo, yc, BB, ha1, hx1⟩ := Y.out
      replace yr := yr.below b1 yr.lt
      replace yo := own_bel yo b1
      replace BB := bnext BB b1
      have c0 := (yr).cell 0
      have c1 := (yr).cell 1
      have c2 := (yr).cell 2
      have c3 := (yr).cell 3
      have c4 := (yr).cell 4
      have c5 := (yr).cell 5
      have c6 := (yr).cell 6
      have c7 := (yr).cell 7
      have c8 := (yr).cell 8
      simp only [List.getElem?_toArray, List.getElem?_cons_zero, List.getElem?_cons_succ] at c0 c1 c2 c3 c4 c5 c6 c7 c8
      have Y2 := Lib.hid (And.intro yo BB)
      clear yr yc b1 yo BB ha1 hx1
      go_wp2_with fail
      refine (HR1.out _).mono ?_
      rintro e w2 ⟨rfl, b2⟩
      obtain ⟨yo, BB⟩ := Y2.out
      replace yo := own_bel yo b2
      replace BB := bnext BB b2
      clear b2
      go_wp2_with fail
      go_ret
      have hys : lifeS h g oc 3 ⟨a, m, st, me, lo, fa, nx, du, ch⟩ = ys := by
        rw [HF.out, lifeS_no (by rintro ⟨_, e⟩; rw [show okRt ⟨a1, m1, st1, me1, lo1, fa1, nx1, du1, ch1⟩ = false from HOK.out.symm, Bool.and_false] at e; exact absurd (show (2 : Int) = 0 from e) (by decide)), List.append_nil]
      obtain ⟨A1, c1, rfl, h1, h2, h3, _⟩ := own_row yo
      rw [hys]
      exact ⟨A1, c1, rfl, h1, h2, h3, BB⟩
    have hfin : (2 ≤ st1 ∧ du1 ≤ 4611686018426387904) ∨ ¬ 2 ≤ st1 ∨ (2 ≤ st1 ∧ ¬ du1 ≤ 4611686018426387904) := by omega
    have HFIN := Lib.hid hfin
    clear hfin
    rcases HFIN.out with ⟨e2, e3⟩ | e2 | ⟨e2, e3⟩
    case inr.inl =>
      have g2 : decide (2 ≤ st1) = false := by simpa using e2
      have HE2 := Lib.hid e2
      clear e2
      go_wp2_with fail
      refine HC1.out.mono ?_
      rintro e w1 ⟨rfl, b1⟩
      obtain ⟨yr, yo, yc, BB, han⟩ := Y.out
      replace yr := yr.below b1 yr.lt
      replace yo := own_bel yo b1
      replace yc := yc.below b1 yc.lt
      replace BB := bnext BB b1
      have c0 := (yr).cell 0
      have c1 := (yr).cell 1
      have c2 := (yr).cell 2
      have c3 := (yr).cell 3
      have c4 := (yr).cell 4
      have c5 := (yr).cell 5
      have c6 := (yr).cell 6
      have c7 := (yr).cell 7
      have c8 := (yr).cell 8
      simp only [List.getElem?_toArray, List.getElem?_cons_zero, List.getElem?_cons_succ] at c0 c1 c2 c3 c4 c5 c6 c7 c8
      have Y2 := Lib.hid (And.intro yr (And.intro yo (And.intro yc (And.intro BB han))))
      clear yr yc b1 yo BB han
      go_wp2_with fail
      refine (HR1.out _).mono ?_
      rintro e w2 ⟨rfl, b2⟩
      obtain ⟨yr, yo, yc, BB, han⟩ := Y2.out
      replace yr := yr.below b2 yr.lt
      replace yo := own_bel yo b2
      replace BB := bnext BB b2
      clear c0 c1 c2 c3 c4 c5 c6 c7 c8
      have c0 := (yr).cell 0
      have c1 := (yr).cell 1
      have c2 := (yr).cell 2
      have c3 := (yr).cell 3
      have c4 := (yr).cell 4
      have c5 := (yr).cell 5
      have c6 := (yr).cell 6
      have c7 := (yr).cell 7
      have c8 := (yr).cell 8
      simp only [List.getElem?_toArray, List.getElem?_cons_zero, List.getElem?_cons_succ] at c0 c1 c2 c3 c4 c5 c6 c7 c8
      clear yr yc b2 han
      go_wp2_with fail
      go_ret
      have hys : lifeS h g oc 3 ⟨a, m, st, me, lo, fa, nx, du, ch⟩ = ys := by
        rw [HF.out, lifeS_no (by rintro ⟨e, _⟩; have e := tim_cases e; have := HE2.out; simp only at e; omega), List.append_nil]
      obtain ⟨A1, c1, rfl, h1, h2, h3, _⟩ := own_row yo
      rw [hys]
      exact ⟨A1, c1, rfl, h1, h2, h3, BB⟩
    case inr.inr =>
      have g2 : decide (2 ≤ st1) = true := by simpa using e2
      have g3 : decide (du1 ≤ 4611686018426387904) = false := by simpa using e3
      have HE2 := Lib.hid (And.intro e2 e3)
      clear e2 e3
      go_wp2_with fail
      refine HC1.out.mono ?_
      rintro e w1 ⟨rfl, b1⟩
      obtain ⟨yr, yo, yc, BB, han⟩ := Y.out
      replace yr := yr.below b1 yr.lt
      replace yo := own_bel yo b1
      replace yc := yc.below b1 yc.lt
      replace BB := bnext BB b1
      have c0 := (yr).cell 0
      have c1 := (yr).cell 1
      have c2 := (yr).cell 2
      have c3 := (yr).cell 3
      have c4 := (yr).cell 4
      have c5 := (yr).cell 5
      have c6 := (yr).cell 6
      have c7 := (yr).cell 7
      have c8 := (yr).cell 8
      simp only [List.getElem?_toArray, List.getElem?_cons_zero, List.getElem?_cons_succ] at c0 c1 c2 c3 c4 c5 c6 c7 c8
      have Y2 := Lib.hid (And.intro yr (And.intro yo (And.intro yc (And.intro BB han))))
      clear yr yc b1 yo BB han
      go_wp2_with fail
      refine (HR1.out _).mono ?_
      rintro e w2 ⟨rfl, b2⟩
      obtain ⟨yr, yo, yc, BB, han⟩ := Y2.out
      replace yr := yr.below b2 yr.lt
      replace yo := own_bel yo b2
      replace BB := bnext BB b2
      clear c0 c1 c2 c3 c4 c5 c6 c7 c8
      have c0 := (yr).cell 0
      have c1 := (yr).cell 1
      have c2 := (yr).cell 2
      have c3 := (yr).cell 3
      have c4 := (yr).cell 4
      have c5 := (yr).cell 5
      have c6 := (yr).cell 6
      have c7 := (yr).cell 7
      have c8 := (yr).cell 8
      simp only [List.getElem?_toArray, List.getElem?_cons_zero, List.getElem?_cons_succ] at c0 c1 c2 c3 c4 c5 c6 c7 c8
      clear yr yc b2 han
      go_wp2_with fail
      go_ret
      have hys : lifeS h g oc 3 ⟨a, m, st, me, lo, fa, nx, du, ch⟩ = ys := by
        rw [HF.out, lifeS_no (by rintro ⟨_, e⟩; rw [HO.out, show okRt ⟨a1, m1, st1, me1, lo1, fa1, nx1, du1, ch1⟩ = true from HOK.out.symm] at e; have e1 : (if inF 0 4611686018426387904 du1 = true then (0 : Int) else 170) = 0 := e; rw [if_neg (by intro q; have q2 := (of_decide_eq_true q : 0 ≤ du1 ∧ du1 ≤ 4611686018426387904).2; have q3 := HE2.out; omega)] at e1; cases e1), List.append_nil]
      obtain ⟨A1, c1, rfl, h1, h2, h3, _⟩ := own_row yo
      rw [hys]
      exact ⟨A1, c1, rfl, h1, h2, h3, BB⟩
    have g2 : decide (2 ≤ st1) = true := by simpa using e2
    have g3 : decide (du1 ≤ 4611686018426387904) = true := by simpa using e3
    have htm := okR_tim a1 m1 st1 me1 lo1 fa1 nx1 du1 ch1 HOK.out.symm e2
    have hbb := hbd.out HO.out
    have hwr : IntKind.i64.wrap (du1 + h) = du1 + h := IntWalk.i64_in _ ⟨by omega, by omega⟩
    have hwg : IntKind.i64.wrap (du1 + g) = du1 + g := IntWalk.i64_in _ ⟨by omega, by omega⟩
    have HX1 := Lib.hid (fun W => HX.out a1 m1 st1 me1 lo1 fa1 nx1 du1 ch1 W htm.2.2 hwr hwg)
    have HT := Lib.hid (And.intro htm e3)
    clear e2 e3 htm hbb hwr hwg
    have hsx : Hid (askR (oc && okRt ⟨a1, m1, st1, me1, lo1, fa1, nx1, du1, ch1⟩) du1 = 0) := Lib.hid (by
      rw [HO.out, show okRt ⟨a1, m1, st1, me1, lo1, fa1, nx1, du1, ch1⟩ = true from HOK.out.symm]
      show (if inF 0 4611686018426387904 du1 = true then (0 : Int) else 170) = 0
      exact if_pos (decide_eq_true ⟨HT.out.1.2.1, HT.out.2⟩))
    go_wp2_with fail
    refine HC1.out.mono ?_
    rintro e w1 ⟨rfl, b1⟩
    obtain ⟨yr, yo, yc, BB, han⟩ := Y.out
    replace yr := yr.below b1 yr.lt
    replace yo := own_bel yo b1
    replace yc := yc.below b1 yc.lt
    replace BB := bnext BB b1
    have c0 := (yr).cell 0
    have c1 := (yr).cell 1
    have c2 := (yr).cell 2
    have c3 := (yr).cell 3
    have c4 := (yr).cell 4
    have c5 := (yr).cell 5
    have c6 := (yr).cell 6
    have c7 := (yr).cell 7
    have c8 := (yr).cell 8
    simp only [List.getElem?_toArray, List.getElem?_cons_zero, List.getElem?_cons_succ] at c0 c1 c2 c3 c4 c5 c6 c7 c8
    have Y2 := Lib.hid (And.intro yr (And.intro yo (And.intro yc (And.intro BB han))))
    clear yr yc b1 yo BB han
    go_wp2_with fail
    refine (HR1.out _).mono ?_
    rintro e w2 ⟨rfl, b2⟩
    obtain ⟨yr, yo, yc, BB, han⟩ := Y2.out
    replace yr := yr.below b2 yr.lt
    replace yo := own_bel yo b2
    replace yc := yc.below b2 yc.lt
    replace BB := bnext BB b2
    clear c0 c1 c2 c3 c4 c5 c6 c7 c8
    have c0 := (yr).cell 0
    have c1 := (yr).cell 1
    have c2 := (yr).cell 2
    have c3 := (yr).cell 3
    have c4 := (yr).cell 4
    have c5 := (yr).cell 5
    have c6 := (yr).cell 6
    have c7 := (yr).cell 7
    have c8 := (yr).cell 8
    simp only [List.getElem?_toArray, List.getElem?_cons_zero, List.getElem?_cons_succ] at c0 c1 c2 c3 c4 c5 c6 c7 c8
    have k0 := (yc).cell 0
    have k1 := (yc).cell 1
    have k2 := (yc).cell 2
    have k3 := (yc).cell 3
    have k4 := (yc).cell 4
    have k5 := (yc).cell 5
    have k6 := (yc).cell 6
    have k7 := (yc).cell 7
    have k8 := (yc).cell 8
    simp only [List.getElem?_toArray, List.getElem?_cons_zero, List.getElem?_cons_succ] at k0 k1 k2 k3 k4 k5 k6 k7 k8
    have Y3 := Lib.hid (And.intro yr (And.intro yo (And.intro yc BB)))
    clear yr yo yc BB b2
    go_wp2_with fail
    refine (HX1.out _).mono ?_
    rintro e w4 ⟨⟨⟨a2, m2, st2, me2, lo2, fa2, nx2, du2, ch2⟩, hr2, rfl⟩, b4⟩
    have HR2 := Lib.hid hr2
    clear hr2
    obtain ⟨yr, yo, yc, BB⟩ := Y3.out
    replace yr := yr.below b4 yr.lt
    replace yo := own_bel yo b4
    replace yc := yc.below b4 yc.lt
    replace BB := bnext BB b4
    clear c0 c1 c2 c3 c4 c5 c6 c7 c8 k0 k1 k2 k3 k4 k5 k6 k7 k8
    have c0 := (yr).cell 0
    have c1 := (yr).cell 1
    have c2 := (yr).cell 2
    have c3 := (yr).cell 3
    have c4 := (yr).cell 4
    have c5 := (yr).cell 5
    have c6 := (yr).cell 6
    have c7 := (yr).cell 7
    have c8 := (yr).cell 8
    simp only [List.getElem?_toArray, List.getElem?_cons_zero, List.getElem?_cons_succ] at c0 c1 c2 c3 c4 c5 c6 c7 c8
    have f0 := yr.frozen 0
    have f1 := yr.frozen 1
    have f2 := yr.frozen 2
    have f3 := yr.frozen 3
    have f4 := yr.frozen 4
    have f5 := yr.frozen 5
    have f6 := yr.frozen 6
    have f7 := yr.frozen 7
    have f8 := yr.frozen 8
    have hown : ∀ jj, v.ownBlock = some jj → jj ≠ w.heap.size + 1 := fun jj hj => by have := (yo.lt jj hj).1; omega
    have hs4 := BB.size
    have hs5 := yr.lt
    have Q5 := Lib.hid (And.intro (put9 yr (.int .u32 a2) (.int .i64 m2) (.int .i64 st2) (.int .i64 me2) (.int .i64 lo2) (.int .i64 fa2) (.int .u32 nx2) (.int .i64 du2) (.bool ch2)) (And.intro (own_store9 yo hown (.int .u32 a2) (.int .i64 m2) (.int .i64 st2) (.int .i64 me2) (.int .i64 lo2) (.int .i64 fa2) (.int .u32 nx2) (.int .i64 du2) (.bool ch2)) (And.intro (put9_far (b := w.heap.size + 1) yc (by omega) (.int .u32 a2) (.int .i64 m2) (.int .i64 st2) (.int .i64 me2) (.int .i64 lo2) (.int .i64 fa2) (.int .u32 nx2) (.int .i64 du2) (.bool ch2)) (put9_below (b := w.heap.size + 1) BB (by omega) (.int .u32 a2) (.int .i64 m2) (.int .i64 st2) (.int .i64 me2) (.int .i64 lo2) (.int .i64 fa2) (.int .u32 nx2) (.int .i64 du2) (.bool ch2)))))
    clear yr yo yc BB b4 hown
    go_upto_region 7 with fail
    have hs6 : w.heap.size + 2 ≤ ((((((((((w4.setCell ⟨w.heap.size + 1, 0, none⟩ (.int .u32 a2)).setCell ⟨w.heap.size + 1, 1, none⟩ (.int .i64 m2)).setCell ⟨w.heap.size + 1, 2, none⟩ (.int .i64 st2)).setCell ⟨w.heap.size + 1, 3, none⟩ (.int .i64 me2)).setCell ⟨w.heap.size + 1, 4, none⟩ (.int .i64 lo2)).setCell ⟨w.heap.size + 1, 5, none⟩ (.int .i64 fa2)).setCell ⟨w.heap.size + 1, 6, none⟩ (.int .u32 nx2)).setCell ⟨w.heap.size + 1, 7, none⟩ (.int .i64 du2)).setCell ⟨w.heap.size + 1, 8, none⟩ (.bool ch2))).heap.size := by simp; omega
    generalize (((((((((w4.setCell ⟨w.heap.size + 1, 0, none⟩ (.int .u32 a2)).setCell ⟨w.heap.size + 1, 1, none⟩ (.int .i64 m2)).setCell ⟨w.heap.size + 1, 2, none⟩ (.int .i64 st2)).setCell ⟨w.heap.size + 1, 3, none⟩ (.int .i64 me2)).setCell ⟨w.heap.size + 1, 4, none⟩ (.int .i64 lo2)).setCell ⟨w.heap.size + 1, 5, none⟩ (.int .i64 fa2)).setCell ⟨w.heap.size + 1, 6, none⟩ (.int .u32 nx2)).setCell ⟨w.heap.size + 1, 7, none⟩ (.int .i64 du2)).setCell ⟨w.heap.size + 1, 8, none⟩ (.bool ch2)) = w5 at *
    obtain ⟨yr, yo, yc, BB⟩ := Q5.out
    clear c0 c1 c2 c3 c4 c5 c6 c7 c8 f0 f1 f2 f3 f4 f5 f6 f7 f8
    have c0 := (yr).cell 0
    have c1 := (yr).cell 1
    have c2 := (yr).cell 2
    have c3 := (yr).cell 3
    have c4 := (yr).cell 4
    have c5 := (yr).cell 5
    have c6 := (yr).cell 6
    have c7 := (yr).cell 7
    have c8 := (yr).cell 8
    simp only [List.getElem?_toArray, List.getElem?_cons_zero, List.getElem?_cons_succ] at c0 c1 c2 c3 c4 c5 c6 c7 c8
    have hlen : ys.length + 1 ≤ 3 := by have := HLT.out; omega
    have Y6 := Lib.hid (And.intro yr (And.intro yo (And.intro yc BB)))
    have HLN := Lib.hid hlen
    have hwl : IntKind.i64.wrap ((ys.length : Int) + 1) = (ys.length : Int) + 1 := IntWalk.i64_in _ ⟨by omega, by omega⟩
    clear yr yc BB yo hlen
    go_wp2_with (at_builtin; go_must (refine wpList_append_rd rfl (.tmp 36) (.tmp 40) _ rfl (w.heap.size + 2) 49 i0 _ 10 80 Tryd.underlying43 hi0 hz0 hz1 hz2 rfl (by omega) v _ _ rfl (Y6.out.2.1.alloc _) 1 1 (stR (du1, ⟨a2, m2, st2, me2, lo2, fa2, nx2, du2, ch2⟩)) rfl rfl (Rd.new _ _ (stR (du1, ⟨a2, m2, st2, me2, lo2, fa2, nx2, du2, ch2⟩))) (stR_one _) (by have := HLN.out; simp only [maxLen]; omega) (by have := HLN.out; omega) (by simp; omega) ?_); intro v1 w6 ho1 hg1 ha1)
    go_roundw
    case rel =>
      obtain ⟨yr, yo, yc, BB⟩ := Y6.out
      obtain ⟨kk', rfl⟩ : ∃ kk', kk = kk' + 1 := ⟨kk - 1, by have := HLT.out; have := hYL.out; omega⟩
      have hst : lifeS h g oc (kk' + 1) ⟨a1, m1, st1, me1, lo1, fa1, nx1, du1, ch1⟩ = (du1, ⟨a2, m2, st2, me2, lo2, fa2, nx2, du2, ch2⟩) :: lifeS h g oc kk' ⟨a2, m2, st2, me2, lo2, fa2, nx2, du2, ch2⟩ := by
        rw [show (⟨a2, m2, st2, me2, lo2, fa2, nx2, du2, ch2⟩ : Rt) = expR h g ⟨a1, m1, st1, me1, lo1, fa1, nx1, du1, ch1⟩ du1 from HR2.out]
        exact if_pos ⟨HT.out.1.1, hsx.out⟩
      have han2 := exp_an h g ⟨a1, m1, st1, me1, lo1, fa1, nx1, du1, ch1⟩ du1 han.1 han.2
      rw [← HR2.out] at han2
      have hne : ∀ {b : Nat}, b < w.heap.size + 2 → some b ≠ v.ownBlock := fun hq e => by have := (yo.lt _ e.symm).1; omega
      have hle : (ys ++ [(du1, (⟨a2, m2, st2, me2, lo2, fa2, nx2, du2, ch2⟩ : Rt))]).length = ys.length + 1 := by simp
      have hsc : stC (ys ++ [(du1, (⟨a2, m2, st2, me2, lo2, fa2, nx2, du2, ch2⟩ : Rt))]) = stC ys ++ stR (du1, ⟨a2, m2, st2, me2, lo2, fa2, nx2, du2, ch2⟩) := by rw [stC_append]; simp [stC]
      refine ⟨a2, m2, st2, me2, lo2, fa2, nx2, du2, ch2, ys ++ [(du1, ⟨a2, m2, st2, me2, lo2, fa2, nx2, du2, ch2⟩)], kk', _, rfl, by rw [hle]; go_num, by rw [hle]; have := hYL.out; omega, grown_blk hg1 (yr.alloc _) (hne (by omega)), ?_, grown_blk hg1 (yc.alloc _) (hne (by omega)), (balloc BB _).grown hg1 (by simp; omega) (fun jj hj => by have := (yo.lt jj hj).1; omega), han2.1, han2.2, Lib.hid ?_⟩
      · rw [hle, hsc]; exact ho1
      · rw [HF.out, hst, List.append_assoc]; rfl
    case measure => simp [intOf]; have := HLT.out; omega
end Go.Proofs.YtgjeejdebneoaaaDoor
