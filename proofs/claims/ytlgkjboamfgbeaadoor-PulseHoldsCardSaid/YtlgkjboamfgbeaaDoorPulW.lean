/- The chapter's rows of pulse (works): true; how many prefixes there are (few). -/
import Derived.Test.YtlgkjboamfgbeaaDoorPulA
namespace Go.Proofs.YtlgkjboamfgbeaaDoor
set_option linter.unusedVariables false
set_option linter.unusedSimpArgs false
open Go.RowKit
set_option maxRecDepth 100000
theorem okC_w15 : okC 10 4 60 0 1 2 1 1 [] = true := by decide +kernel
theorem few15_any (p j t h g q s cp : Int) (A : Option Addr) (n k : Nat) (w : World) :
    Calls Tryd.prog 8 #[.agg #[.int .i64 p, .int .i64 j, .int .i64 t, .int .i64 h, .int .i64 g, .int .i64 q, .int .i64 s, .int .i64 cp, .slice A n k]] w fun e w' => e = .returned (.bool (decide (n ≤ 20))) ∧ Below w.heap.size w w' := by
  go_enter Tryd.func8, Tryd.ntmps8
  go_wp2
  go_ret
  exact ⟨ret_bool (by rw [decide_eq_decide]; omega), balloc (Below.refl _ _) _⟩

/-- a pulse's block is written whole -/
theorem pset {W : World} {b : Nat} {x y z a c d : Value} (h : Blk W b 28 #[x, y, z]) : Blk (((W.setCell ⟨b, 0, none⟩ a).setCell ⟨b, 1, none⟩ c).setCell ⟨b, 2, none⟩ d) b 28 #[a, c, d] := by
  have := ((h.set 0 a).set 1 c).set 2 d
  simpa using this
theorem pfar {W : World} {b g : Nat} {t : TypeId} {cs : Array Value} {a c d : Value} (h : Blk W g t cs) (hne : ¬ g = b) : Blk (((W.setCell ⟨b, 0, none⟩ a).setCell ⟨b, 1, none⟩ c).setCell ⟨b, 2, none⟩ d) g t cs :=
  ((h.far (p := ⟨b, 0, none⟩) hne a).far (p := ⟨b, 1, none⟩) hne c).far (p := ⟨b, 2, none⟩) hne d
theorem pbel {w W : World} {b : Nat} {a c d : Value} (h : Below w.heap.size w W) (hb : w.heap.size ≤ b) : Below w.heap.size w (((W.setCell ⟨b, 0, none⟩ a).setCell ⟨b, 1, none⟩ c).setCell ⟨b, 2, none⟩ d) :=
  ((h.setCell (p := ⟨b, 0, none⟩) hb a).setCell (p := ⟨b, 1, none⟩) hb c).setCell (p := ⟨b, 2, none⟩) hb d

set_option maxHeartbeats 4000000 in
theorem works15_any (w : World) (hw : CapsAt w) :
    Calls Tryd.prog 9 #[] w fun e w' => e = .returned (.bool true) ∧ Below w.heap.size w w' := by
  have HBG := Lib.hid (fun nw dr W (hb : Below w.heap.size w W) => begin_any 10 4 60 0 1 2 1 1 none 0 0 0 [] rfl nw dr W Rd.nil (by omega) (by omega) (by omega) (by simp) (hw.below hb))
  have HCH := Lib.hid (fun du un nw dr wt W (hb : Below w.heap.size w W) => pchange_any 10 4 60 0 1 2 1 1 none 0 0 0 [] rfl du un nw dr wt W Rd.nil (by omega) (by omega) (by omega) (by simp) (hw.below hb))
  have HTK := Lib.hid (fun du un nw dr wt W (hb : Below w.heap.size w W) => ptick_any 10 4 60 0 1 2 1 1 none 0 0 0 [] rfl du un nw dr wt W Rd.nil (by omega) (by omega) (by omega) (by simp) (hw.below hb))
  rw [okC_w15] at HBG HCH HTK
  clear hw
  have hC0 := Blk.new w 24 #[.int .i64 10, .int .i64 4, .int .i64 60, .int .i64 0, .int .i64 1, .int .i64 2, .int .i64 1, .int .i64 1, .slice none 0 0]
  have hB0 : Below w.heap.size w (w.alloc (.cells #[.int .i64 10, .int .i64 4, .int .i64 60, .int .i64 0, .int .i64 1, .int .i64 2, .int .i64 1, .int .i64 1, .slice none 0 0] 24)) := balloc (Below.refl _ _) _
  have K0 := HBG.out 100 3 _ hB0
  rw [show begR (askE true true (okN 100)) (100 + (10 + max 0 (min 3 4))) 100 = .tuple #[.agg #[.int .i64 113, .int .i64 100, .bool false], .int .i64 0] from rfl] at K0
  have KH := Lib.hid K0
  clear K0 HBG
  go_enter Tryd.func9, Tryd.ntmps9
  go_wp2_with fail
  refine KH.out.mono ?_
  rintro e w1 ⟨rfl, b1⟩
  have hC := (hC0.below b1 hC0.lt).alloc (.cells #[.int .i64 113, .int .i64 100, .bool false] 28)
  have hP := Blk.new w1 28 #[.int .i64 113, .int .i64 100, .bool false]
  have hB := balloc (bnext hB0 b1) (.cells #[.int .i64 113, .int .i64 100, .bool false] 28)
  have hlt : ¬ w.heap.size = w1.heap.size := by have := (hC0.below b1 hC0.lt).lt; omega
  have hle : w.heap.size ≤ w1.heap.size := by have := (hC0.below b1 hC0.lt).lt; omega
  clear hC0 hB0 b1 KH

  have c0 := (hC).cell 0
  have c1 := (hC).cell 1
  have c2 := (hC).cell 2
  have c3 := (hC).cell 3
  have c4 := (hC).cell 4
  have c5 := (hC).cell 5
  have c6 := (hC).cell 6
  have c7 := (hC).cell 7
  have c8 := (hC).cell 8
  simp only [List.getElem?_toArray, List.getElem?_cons_zero, List.getElem?_cons_succ] at c0 c1 c2 c3 c4 c5 c6 c7 c8
  have d0 := (hP).cell 0
  have d1 := (hP).cell 1
  have d2 := (hP).cell 2
  simp only [List.getElem?_toArray, List.getElem?_cons_zero, List.getElem?_cons_succ] at d0 d1 d2
  go_wp2_with (first | (go_at_call 12; refine (num_any _ _).mono ?_; rintro e w' ⟨rfl, rfl⟩))
  have K := HCH.out (113) (100) (101) (5) false _ hB
  rw [show pres (askE true (okT 113 && okT 100) (okN 101)) (chgF 2 1 113 100 false 101 (5)) = ((113, 104, false), 1) from rfl, show askE true (okT 113 && okT 100) (okN 101) = 0 from rfl] at K
  unfold GivesP at K
  simp only at K
  refine K.mono ?_
  rintro e v1 ⟨rfl, b1⟩
  clear K
  clear c0 c1 c2 c3 c4 c5 c6 c7 c8 d0 d1 d2
  have hC0 := hC.below b1 hC.lt
  have hP0 := hP.below b1 hP.lt
  have e0 := (hP0).cell 0
  have e1 := (hP0).cell 1
  have e2 := (hP0).cell 2
  simp only [List.getElem?_toArray, List.getElem?_cons_zero, List.getElem?_cons_succ] at e0 e1 e2
  have g0 := (hC0).cell 0
  have g1 := (hC0).cell 1
  have g2 := (hC0).cell 2
  have g3 := (hC0).cell 3
  have g4 := (hC0).cell 4
  have g5 := (hC0).cell 5
  have g6 := (hC0).cell 6
  have g7 := (hC0).cell 7
  have g8 := (hC0).cell 8
  simp only [List.getElem?_toArray, List.getElem?_cons_zero, List.getElem?_cons_succ] at g0 g1 g2 g3 g4 g5 g6 g7 g8
  have f0 := hP0.frozen 0
  have f1 := hP0.frozen 1
  have f2 := hP0.frozen 2
  replace hC := pfar (b := w1.heap.size) (a := .int .i64 113) (c := .int .i64 104) (d := .bool false) hC0 hlt
  replace hB := pbel (b := w1.heap.size) (a := .int .i64 113) (c := .int .i64 104) (d := .bool false) (bnext hB b1) hle
  replace hP := pset (a := .int .i64 113) (c := .int .i64 104) (d := .bool false) hP0
  clear hP0 hC0 b1
  have c0 := (hC).cell 0
  have c1 := (hC).cell 1
  have c2 := (hC).cell 2
  have c3 := (hC).cell 3
  have c4 := (hC).cell 4
  have c5 := (hC).cell 5
  have c6 := (hC).cell 6
  have c7 := (hC).cell 7
  have c8 := (hC).cell 8
  simp only [List.getElem?_toArray, List.getElem?_cons_zero, List.getElem?_cons_succ] at c0 c1 c2 c3 c4 c5 c6 c7 c8
  have d0 := (hP).cell 0
  have d1 := (hP).cell 1
  have d2 := (hP).cell 2
  simp only [List.getElem?_toArray, List.getElem?_cons_zero, List.getElem?_cons_succ] at d0 d1 d2
  go_wp2_with (first | (go_at_call 12; refine (num_any _ _).mono ?_; rintro e w' ⟨rfl, rfl⟩))
  generalize (((v1.setCell ⟨w1.heap.size, 0, none⟩ (.int .i64 113)).setCell ⟨w1.heap.size, 1, none⟩ (.int .i64 104)).setCell ⟨w1.heap.size, 2, none⟩ (.bool false)) = W1 at *
  clear e0 e1 e2 f0 f1 f2
  clear g0 g1 g2 g3 g4 g5 g6 g7 g8
  have K := HCH.out (113) (104) (102) (0) false _ hB
  rw [show pres (askE true (okT 113 && okT 104) (okN 102)) (chgF 2 1 113 104 false 102 (0)) = ((113, 104, true), 0) from rfl, show askE true (okT 113 && okT 104) (okN 102) = 0 from rfl] at K
  unfold GivesP at K
  simp only at K
  refine K.mono ?_
  rintro e v2 ⟨rfl, b2⟩
  clear K
  clear c0 c1 c2 c3 c4 c5 c6 c7 c8 d0 d1 d2
  have hC0 := hC.below b2 hC.lt
  have hP0 := hP.below b2 hP.lt
  have e0 := (hP0).cell 0
  have e1 := (hP0).cell 1
  have e2 := (hP0).cell 2
  simp only [List.getElem?_toArray, List.getElem?_cons_zero, List.getElem?_cons_succ] at e0 e1 e2
  have g0 := (hC0).cell 0
  have g1 := (hC0).cell 1
  have g2 := (hC0).cell 2
  have g3 := (hC0).cell 3
  have g4 := (hC0).cell 4
  have g5 := (hC0).cell 5
  have g6 := (hC0).cell 6
  have g7 := (hC0).cell 7
  have g8 := (hC0).cell 8
  simp only [List.getElem?_toArray, List.getElem?_cons_zero, List.getElem?_cons_succ] at g0 g1 g2 g3 g4 g5 g6 g7 g8
  have f0 := hP0.frozen 0
  have f1 := hP0.frozen 1
  have f2 := hP0.frozen 2
  replace hC := pfar (b := w1.heap.size) (a := .int .i64 113) (c := .int .i64 104) (d := .bool true) hC0 hlt
  replace hB := pbel (b := w1.heap.size) (a := .int .i64 113) (c := .int .i64 104) (d := .bool true) (bnext hB b2) hle
  replace hP := pset (a := .int .i64 113) (c := .int .i64 104) (d := .bool true) hP0
  clear hP0 hC0 b2
  have c0 := (hC).cell 0
  have c1 := (hC).cell 1
  have c2 := (hC).cell 2
  have c3 := (hC).cell 3
  have c4 := (hC).cell 4
  have c5 := (hC).cell 5
  have c6 := (hC).cell 6
  have c7 := (hC).cell 7
  have c8 := (hC).cell 8
  simp only [List.getElem?_toArray, List.getElem?_cons_zero, List.getElem?_cons_succ] at c0 c1 c2 c3 c4 c5 c6 c7 c8
  have d0 := (hP).cell 0
  have d1 := (hP).cell 1
  have d2 := (hP).cell 2
  simp only [List.getElem?_toArray, List.getElem?_cons_zero, List.getElem?_cons_succ] at d0 d1 d2
  go_wp2_with (first | (go_at_call 12; refine (num_any _ _).mono ?_; rintro e w' ⟨rfl, rfl⟩))
  generalize (((v2.setCell ⟨w1.heap.size, 0, none⟩ (.int .i64 113)).setCell ⟨w1.heap.size, 1, none⟩ (.int .i64 104)).setCell ⟨w1.heap.size, 2, none⟩ (.bool true)) = W2 at *
  clear e0 e1 e2 f0 f1 f2
  clear g0 g1 g2 g3 g4 g5 g6 g7 g8
  have K := HTK.out (113) (104) (103) (0) true _ hB
  rw [show pres (askE true (okT 113 && okT 104) (okN 103)) (tckF 10 4 2 1 113 104 true 103 (0)) = ((113, 104, true), 0) from rfl, show askE true (okT 113 && okT 104) (okN 103) = 0 from rfl] at K
  unfold GivesP at K
  simp only at K
  refine K.mono ?_
  rintro e v3 ⟨rfl, b3⟩
  clear K
  clear c0 c1 c2 c3 c4 c5 c6 c7 c8 d0 d1 d2
  have hC0 := hC.below b3 hC.lt
  have hP0 := hP.below b3 hP.lt
  have e0 := (hP0).cell 0
  have e1 := (hP0).cell 1
  have e2 := (hP0).cell 2
  simp only [List.getElem?_toArray, List.getElem?_cons_zero, List.getElem?_cons_succ] at e0 e1 e2
  have g0 := (hC0).cell 0
  have g1 := (hC0).cell 1
  have g2 := (hC0).cell 2
  have g3 := (hC0).cell 3
  have g4 := (hC0).cell 4
  have g5 := (hC0).cell 5
  have g6 := (hC0).cell 6
  have g7 := (hC0).cell 7
  have g8 := (hC0).cell 8
  simp only [List.getElem?_toArray, List.getElem?_cons_zero, List.getElem?_cons_succ] at g0 g1 g2 g3 g4 g5 g6 g7 g8
  have f0 := hP0.frozen 0
  have f1 := hP0.frozen 1
  have f2 := hP0.frozen 2
  replace hC := pfar (b := w1.heap.size) (a := .int .i64 113) (c := .int .i64 104) (d := .bool true) hC0 hlt
  replace hB := pbel (b := w1.heap.size) (a := .int .i64 113) (c := .int .i64 104) (d := .bool true) (bnext hB b3) hle
  replace hP := pset (a := .int .i64 113) (c := .int .i64 104) (d := .bool true) hP0
  clear hP0 hC0 b3
  have c0 := (hC).cell 0
  have c1 := (hC).cell 1
  have c2 := (hC).cell 2
  have c3 := (hC).cell 3
  have c4 := (hC).cell 4
  have c5 := (hC).cell 5
  have c6 := (hC).cell 6
  have c7 := (hC).cell 7
  have c8 := (hC).cell 8
  simp only [List.getElem?_toArray, List.getElem?_cons_zero, List.getElem?_cons_succ] at c0 c1 c2 c3 c4 c5 c6 c7 c8
  have d0 := (hP).cell 0
  have d1 := (hP).cell 1
  have d2 := (hP).cell 2
  simp only [List.getElem?_toArray, List.getElem?_cons_zero, List.getElem?_cons_succ] at d0 d1 d2
  go_wp2_with (first | (go_at_call 12; refine (num_any _ _).mono ?_; rintro e w' ⟨rfl, rfl⟩))
  generalize (((v3.setCell ⟨w1.heap.size, 0, none⟩ (.int .i64 113)).setCell ⟨w1.heap.size, 1, none⟩ (.int .i64 104)).setCell ⟨w1.heap.size, 2, none⟩ (.bool true)) = W3 at *
  clear e0 e1 e2 f0 f1 f2
  clear g0 g1 g2 g3 g4 g5 g6 g7 g8
  have K := pnext_any 113 104 true W3
  rw [show nxtF 113 104 true = 104 from rfl] at K
  refine K.mono ?_
  rintro e v4 ⟨rfl, b4⟩
  clear K
  clear c0 c1 c2 c3 c4 c5 c6 c7 c8 d0 d1 d2
  replace hC := hC.below b4 hC.lt
  replace hP := hP.below b4 hP.lt
  replace hB := bnext hB b4
  clear b4
  have c0 := (hC).cell 0
  have c1 := (hC).cell 1
  have c2 := (hC).cell 2
  have c3 := (hC).cell 3
  have c4 := (hC).cell 4
  have c5 := (hC).cell 5
  have c6 := (hC).cell 6
  have c7 := (hC).cell 7
  have c8 := (hC).cell 8
  simp only [List.getElem?_toArray, List.getElem?_cons_zero, List.getElem?_cons_succ] at c0 c1 c2 c3 c4 c5 c6 c7 c8
  have d0 := (hP).cell 0
  have d1 := (hP).cell 1
  have d2 := (hP).cell 2
  simp only [List.getElem?_toArray, List.getElem?_cons_zero, List.getElem?_cons_succ] at d0 d1 d2
  go_wp2_with (first | (go_at_call 12; refine (num_any _ _).mono ?_; rintro e w' ⟨rfl, rfl⟩))
  have K := HTK.out (113) (104) (104) (9) true _ hB
  rw [show pres (askE true (okT 113 && okT 104) (okN 104)) (tckF 10 4 2 1 113 104 true 104 (9)) = ((113, 107, false), 1) from rfl, show askE true (okT 113 && okT 104) (okN 104) = 0 from rfl] at K
  unfold GivesP at K
  simp only at K
  refine K.mono ?_
  rintro e v5 ⟨rfl, b5⟩
  clear K
  clear c0 c1 c2 c3 c4 c5 c6 c7 c8 d0 d1 d2
  have hC0 := hC.below b5 hC.lt
  have hP0 := hP.below b5 hP.lt
  have e0 := (hP0).cell 0
  have e1 := (hP0).cell 1
  have e2 := (hP0).cell 2
  simp only [List.getElem?_toArray, List.getElem?_cons_zero, List.getElem?_cons_succ] at e0 e1 e2
  have g0 := (hC0).cell 0
  have g1 := (hC0).cell 1
  have g2 := (hC0).cell 2
  have g3 := (hC0).cell 3
  have g4 := (hC0).cell 4
  have g5 := (hC0).cell 5
  have g6 := (hC0).cell 6
  have g7 := (hC0).cell 7
  have g8 := (hC0).cell 8
  simp only [List.getElem?_toArray, List.getElem?_cons_zero, List.getElem?_cons_succ] at g0 g1 g2 g3 g4 g5 g6 g7 g8
  have f0 := hP0.frozen 0
  have f1 := hP0.frozen 1
  have f2 := hP0.frozen 2
  replace hC := pfar (b := w1.heap.size) (a := .int .i64 113) (c := .int .i64 107) (d := .bool false) hC0 hlt
  replace hB := pbel (b := w1.heap.size) (a := .int .i64 113) (c := .int .i64 107) (d := .bool false) (bnext hB b5) hle
  replace hP := pset (a := .int .i64 113) (c := .int .i64 107) (d := .bool false) hP0
  clear hP0 hC0 b5
  have c0 := (hC).cell 0
  have c1 := (hC).cell 1
  have c2 := (hC).cell 2
  have c3 := (hC).cell 3
  have c4 := (hC).cell 4
  have c5 := (hC).cell 5
  have c6 := (hC).cell 6
  have c7 := (hC).cell 7
  have c8 := (hC).cell 8
  simp only [List.getElem?_toArray, List.getElem?_cons_zero, List.getElem?_cons_succ] at c0 c1 c2 c3 c4 c5 c6 c7 c8
  have d0 := (hP).cell 0
  have d1 := (hP).cell 1
  have d2 := (hP).cell 2
  simp only [List.getElem?_toArray, List.getElem?_cons_zero, List.getElem?_cons_succ] at d0 d1 d2
  go_wp2_with (first | (go_at_call 12; refine (num_any _ _).mono ?_; rintro e w' ⟨rfl, rfl⟩))
  generalize (((v5.setCell ⟨w1.heap.size, 0, none⟩ (.int .i64 113)).setCell ⟨w1.heap.size, 1, none⟩ (.int .i64 107)).setCell ⟨w1.heap.size, 2, none⟩ (.bool false)) = W5 at *
  clear e0 e1 e2 f0 f1 f2
  clear g0 g1 g2 g3 g4 g5 g6 g7 g8
  have K := HTK.out (113) (107) (113) (-1) false _ hB
  rw [show pres (askE true (okT 113 && okT 107) (okN 113)) (tckF 10 4 2 1 113 107 false 113 (-1)) = ((123, 107, false), 2) from rfl, show askE true (okT 113 && okT 107) (okN 113) = 0 from rfl] at K
  unfold GivesP at K
  simp only at K
  refine K.mono ?_
  rintro e v6 ⟨rfl, b6⟩
  clear K
  clear c0 c1 c2 c3 c4 c5 c6 c7 c8 d0 d1 d2
  have hC0 := hC.below b6 hC.lt
  have hP0 := hP.below b6 hP.lt
  have e0 := (hP0).cell 0
  have e1 := (hP0).cell 1
  have e2 := (hP0).cell 2
  simp only [List.getElem?_toArray, List.getElem?_cons_zero, List.getElem?_cons_succ] at e0 e1 e2
  have g0 := (hC0).cell 0
  have g1 := (hC0).cell 1
  have g2 := (hC0).cell 2
  have g3 := (hC0).cell 3
  have g4 := (hC0).cell 4
  have g5 := (hC0).cell 5
  have g6 := (hC0).cell 6
  have g7 := (hC0).cell 7
  have g8 := (hC0).cell 8
  simp only [List.getElem?_toArray, List.getElem?_cons_zero, List.getElem?_cons_succ] at g0 g1 g2 g3 g4 g5 g6 g7 g8
  have f0 := hP0.frozen 0
  have f1 := hP0.frozen 1
  have f2 := hP0.frozen 2
  replace hC := pfar (b := w1.heap.size) (a := .int .i64 123) (c := .int .i64 107) (d := .bool false) hC0 hlt
  replace hB := pbel (b := w1.heap.size) (a := .int .i64 123) (c := .int .i64 107) (d := .bool false) (bnext hB b6) hle
  replace hP := pset (a := .int .i64 123) (c := .int .i64 107) (d := .bool false) hP0
  clear hP0 hC0 b6
  have c0 := (hC).cell 0
  have c1 := (hC).cell 1
  have c2 := (hC).cell 2
  have c3 := (hC).cell 3
  have c4 := (hC).cell 4
  have c5 := (hC).cell 5
  have c6 := (hC).cell 6
  have c7 := (hC).cell 7
  have c8 := (hC).cell 8
  simp only [List.getElem?_toArray, List.getElem?_cons_zero, List.getElem?_cons_succ] at c0 c1 c2 c3 c4 c5 c6 c7 c8
  have d0 := (hP).cell 0
  have d1 := (hP).cell 1
  have d2 := (hP).cell 2
  simp only [List.getElem?_toArray, List.getElem?_cons_zero, List.getElem?_cons_succ] at d0 d1 d2
  go_wp2_with (first | (go_at_call 12; refine (num_any _ _).mono ?_; rintro e w' ⟨rfl, rfl⟩))
  generalize (((v6.setCell ⟨w1.heap.size, 0, none⟩ (.int .i64 123)).setCell ⟨w1.heap.size, 1, none⟩ (.int .i64 107)).setCell ⟨w1.heap.size, 2, none⟩ (.bool false)) = W6 at *
  clear e0 e1 e2 f0 f1 f2
  clear g0 g1 g2 g3 g4 g5 g6 g7 g8
  have K := pnext_any 123 107 false W6
  rw [show nxtF 123 107 false = 123 from rfl] at K
  refine K.mono ?_
  rintro e v7 ⟨rfl, b7⟩
  clear K
  clear c0 c1 c2 c3 c4 c5 c6 c7 c8 d0 d1 d2
  replace hC := hC.below b7 hC.lt
  replace hP := hP.below b7 hP.lt
  replace hB := bnext hB b7
  clear b7
  go_wp2_with fail
  go_ret
  exact ⟨rfl, hB⟩
end Go.Proofs.YtlgkjboamfgbeaaDoor
