/- RouteChecks: the walk. -/
import Derived.Test.YtgjeejdebneoaaaDoorRoG
import Derived.Test.YtgjeejdebneoaaaDoorRo8
import Derived.Test.YtgjeejdebneoaaaDoorRoA
import Derived.Test.YtgjeejdebneoaaaDoorRoB
import Derived.Test.YtgjeejdebneoaaaDoorRoC
import Derived.Test.YtgjeejdebneoaaaDoorRoI
namespace Go.Proofs.YtgjeejdebneoaaaDoor
set_option linter.unusedVariables false
set_option linter.unusedSimpArgs false
open Go.RowKit
set_option maxRecDepth 100000

set_option maxHeartbeats 8000000 in
theorem routechecks_walk (a : Nat) (m st me lo fa : Int) (nx : Nat) (du : Int) (ch : Bool) (pa : Nat) (pm face : Int) (w : World) (hw : CapsAt w) (ha : a < 4294967296) (hx : nx < 4294967296) (hpa : pa < 4294967296) :
    Calls Tryd.prog 5 #[.agg #[.int .u32 a, .int .i64 m, .int .i64 st, .int .i64 me, .int .i64 lo, .int .i64 fa, .int .u32 nx, .int .i64 du, .bool ch], .agg #[.int .u32 pa, .int .i64 pm], .int .i64 face] w fun e w' => e = .returned (.bool true) ∧ Below w.heap.size w w' := by
  have HW := Lib.hid (fun W (hW : Below w.heap.size w W) => works11_any W (hw.below hW))
  have HC := Lib.hid (fun W => rcheck_any a m st me lo fa nx du ch W ha hx)
  have HR := Lib.hid (fun W => rright_any a m st me lo fa nx du ch W ha hx)
  have HT := Lib.hid (fun W => told_any a m st me lo fa nx du ch face W ha hx)
  have HU := Lib.hid (fun W => rtold_any a m st me lo fa nx du ch face W ha hx)
  have HO := Lib.hid (fun W => rown11_any pa pm W hpa)
  have HP := Lib.hid (fun W => refOwn_any pa pm W)
  have HG := Lib.hid (fun W => refGood_any pa pm W hpa)
  rw [← okOf_one] at HG
  have yr := (Blk.new w 31 #[.int .u32 a, .int .i64 m, .int .i64 st, .int .i64 me, .int .i64 lo, .int .i64 fa, .int .u32 nx, .int .i64 du, .bool ch]).alloc (.cells #[.int .u32 pa, .int .i64 pm] 28)
  have yp := Blk.new (w.alloc (.cells #[.int .u32 a, .int .i64 m, .int .i64 st, .int .i64 me, .int .i64 lo, .int .i64 fa, .int .u32 nx, .int .i64 du, .bool ch] 31)) 28 #[.int .u32 pa, .int .i64 pm]
  simp only [World.size_alloc] at yp
  have BB : Below w.heap.size w ((w.alloc (.cells #[.int .u32 a, .int .i64 m, .int .i64 st, .int .i64 me, .int .i64 lo, .int .i64 fa, .int .u32 nx, .int .i64 du, .bool ch] 31)).alloc (.cells #[.int .u32 pa, .int .i64 pm] 28)) := balloc (balloc (Below.refl _ _) _) _
  have Y := Lib.hid (And.intro yr (And.intro yp BB))
  clear yr yp BB hw ha hx hpa
  generalize toldR (okR a m st me lo fa nx du ch) st me fa face = td at *
  generalize okR a m st me lo fa nx du ch = or at *
  generalize okOf pa pm 1 = op at *
  cases op
  case false =>
    have HO2 : Hid (∀ W, Calls Tryd.prog 17 #[.agg #[.int .u32 pa, .int .i64 pm]] W fun e w' => e = .returned (.tuple #[.agg #[.int .u32 0, .int .i64 0, .int .i64 0, .int .i64 0, .int .i64 0, .int .i64 0, .int .u32 0, .int .i64 0, .bool false], .int .i64 2]) ∧ Below W.heap.size W w') := Lib.hid (fun W => HO.out W)
    have heq := fun W => eq_self 0 0 0 0 0 0 0 0 false W
    clear HO
    cases or
    all_goals
      simp only [errC, if_true, Bool.false_eq_true, if_false] at HC
      go_enter Tryd.func5, Tryd.ntmps5
      go_wp2_with fail
      refine (HC.out _).mono ?_
      rintro e w1 ⟨rfl, b1⟩
      obtain ⟨yr, yp, BB⟩ := Y.out
      replace yr := yr.below b1 yr.lt
      replace yp := yp.below b1 yp.lt
      replace BB := bnext BB b1
      have c0 := (yr).cell 0
      have c1 := (yr).cell 1
      have c2 := (yr).cell 2
      have c3 := (yr).cell 3
      have c4 := (yr).cell 4
      have c5 := (yr).cell 5
      have c6 := (yr).cell 6
      have c7 := (yr).cell 7
      have c8 := (yr).cell 8
      simp only [List.getElem?_toArray, List.getElem?_cons_zero, List.getElem?_cons_succ] at c0 c1 c2 c3 c4 c5 c6 c7 c8
      have k0 := (yp).cell 0
      have k1 := (yp).cell 1
      simp only [List.getElem?_toArray, List.getElem?_cons_zero, List.getElem?_cons_succ] at k0 k1
      have Y2 := Lib.hid (And.intro yr (And.intro yp BB))
      clear yr yp BB b1
      go_wp2_with (go_at_call 12; refine (num_any _ _).mono ?_; rintro e wn ⟨rfl, rfl⟩)
      refine (HO2.out _).mono ?_
      rintro e w2 ⟨rfl, b2⟩
      obtain ⟨yr, yp, BB⟩ := Y2.out
      clear c0 c1 c2 c3 c4 c5 c6 c7 c8 k0 k1
      have yo := Blk.new w2 31 #[.int .u32 0, .int .i64 0, .int .i64 0, .int .i64 0, .int .i64 0, .int .i64 0, .int .u32 0, .int .i64 0, .bool false]
      replace yr := (yr.below b2 yr.lt).alloc (.cells #[.int .u32 0, .int .i64 0, .int .i64 0, .int .i64 0, .int .i64 0, .int .i64 0, .int .u32 0, .int .i64 0, .bool false] 31)
      replace yp := (yp.below b2 yp.lt).alloc (.cells #[.int .u32 0, .int .i64 0, .int .i64 0, .int .i64 0, .int .i64 0, .int .i64 0, .int .u32 0, .int .i64 0, .bool false] 31)
      replace BB := balloc (bnext BB b2) (.cells #[.int .u32 0, .int .i64 0, .int .i64 0, .int .i64 0, .int .i64 0, .int .i64 0, .int .u32 0, .int .i64 0, .bool false] 31)
      clear b2
      generalize hWx : w2.alloc (.cells #[.int .u32 0, .int .i64 0, .int .i64 0, .int .i64 0, .int .i64 0, .int .i64 0, .int .u32 0, .int .i64 0, .bool false] 31) = Wx at *
      have HWx := Lib.hid hWx
      clear hWx
      have c0 := fun v : Sub Wx => ((yr).below v.2 (yr).lt).cell 0
      have c1 := fun v : Sub Wx => ((yr).below v.2 (yr).lt).cell 1
      have c2 := fun v : Sub Wx => ((yr).below v.2 (yr).lt).cell 2
      have c3 := fun v : Sub Wx => ((yr).below v.2 (yr).lt).cell 3
      have c4 := fun v : Sub Wx => ((yr).below v.2 (yr).lt).cell 4
      have c5 := fun v : Sub Wx => ((yr).below v.2 (yr).lt).cell 5
      have c6 := fun v : Sub Wx => ((yr).below v.2 (yr).lt).cell 6
      have c7 := fun v : Sub Wx => ((yr).below v.2 (yr).lt).cell 7
      have c8 := fun v : Sub Wx => ((yr).below v.2 (yr).lt).cell 8
      simp only [List.getElem?_toArray, List.getElem?_cons_zero, List.getElem?_cons_succ] at c0 c1 c2 c3 c4 c5 c6 c7 c8
      have k0 := fun v : Sub Wx => ((yp).below v.2 (yp).lt).cell 0
      have k1 := fun v : Sub Wx => ((yp).below v.2 (yp).lt).cell 1
      simp only [List.getElem?_toArray, List.getElem?_cons_zero, List.getElem?_cons_succ] at k0 k1
      have x0 := fun v : Sub Wx => ((yo).below v.2 (yo).lt).cell 0
      have x1 := fun v : Sub Wx => ((yo).below v.2 (yo).lt).cell 1
      have x2 := fun v : Sub Wx => ((yo).below v.2 (yo).lt).cell 2
      have x3 := fun v : Sub Wx => ((yo).below v.2 (yo).lt).cell 3
      have x4 := fun v : Sub Wx => ((yo).below v.2 (yo).lt).cell 4
      have x5 := fun v : Sub Wx => ((yo).below v.2 (yo).lt).cell 5
      have x6 := fun v : Sub Wx => ((yo).below v.2 (yo).lt).cell 6
      have x7 := fun v : Sub Wx => ((yo).below v.2 (yo).lt).cell 7
      have x8 := fun v : Sub Wx => ((yo).below v.2 (yo).lt).cell 8
      simp only [List.getElem?_toArray, List.getElem?_cons_zero, List.getElem?_cons_succ] at x0 x1 x2 x3 x4 x5 x6 x7 x8
      have hne : Nonempty (Sub Wx) := ⟨⟨_, Below.refl _ _⟩⟩
      have Y3 := Lib.hid (And.intro yr (And.intro yp (And.intro yo BB)))
      clear yr yp yo BB
      go_wp2_with fail
      simp only [HWx.out]
      clear HWx
      refine region_sub (by kernel_rfl) (by kernel_rfl) ?_
      repeat (first | go_big_quiet_step ((first | (go_at_call 18; exact sub_below (HR.out _)) | (go_at_call 19; exact sub_below (HT.out _)) | (go_at_call 20; exact sub_below (HU.out _)))) | quiet_step ((first | (go_at_call 18; exact sub_below (HR.out _)) | (go_at_call 19; exact sub_below (HT.out _)) | (go_at_call 20; exact sub_below (HU.out _)))))
      refine wpQuiet_nil ?_
      rintro _ ⟨v, rfl⟩
      obtain ⟨yr, yp, yo, BB⟩ := Y3.out
      clear c0 c1 c2 c3 c4 c5 c6 c7 c8 k0 k1 x0 x1 x2 x3 x4 x5 x6 x7 x8
      replace yp := yp.below v.2 yp.lt
      replace yo := yo.below v.2 yo.lt
      replace BB := bnext BB v.2
      clear yr
      obtain ⟨w3, b3⟩ := v
      dsimp only at yp yo BB ⊢
      clear b3
      have k0 := (yp).cell 0
      have k1 := (yp).cell 1
      simp only [List.getElem?_toArray, List.getElem?_cons_zero, List.getElem?_cons_succ] at k0 k1
      have Y4 := Lib.hid (And.intro yp (And.intro yo BB))
      clear yp yo BB
      go_wp2_with fail
      refine (HG.out _).mono ?_
      rintro e w4 ⟨rfl, b4⟩
      obtain ⟨yp, yo, BB⟩ := Y4.out
      clear k0 k1
      replace yp := yp.below b4 yp.lt
      replace yo := yo.below b4 yo.lt
      replace BB := bnext BB b4
      clear b4
      have x0 := (yo).cell 0
      have x1 := (yo).cell 1
      have x2 := (yo).cell 2
      have x3 := (yo).cell 3
      have x4 := (yo).cell 4
      have x5 := (yo).cell 5
      have x6 := (yo).cell 6
      have x7 := (yo).cell 7
      have x8 := (yo).cell 8
      simp only [List.getElem?_toArray, List.getElem?_cons_zero, List.getElem?_cons_succ] at x0 x1 x2 x3 x4 x5 x6 x7 x8
      have HWc := HW.out _ BB
      clear yp yo
      go_wp2_with (first | (go_at_call 12; refine (num_any _ _).mono ?_; rintro e wn ⟨rfl, rfl⟩) | (go_at_call 9; refine HWc.mono ?_; rintro e w5 ⟨rfl, b5⟩))
      go_ret
      exact ⟨rfl, bnext BB b5⟩
  case true =>
    rw [show outR (errC true) (ownR pa pm) = ownR pa pm from rfl] at HO
    have HO2 : Hid (∀ W, Calls Tryd.prog 17 #[.agg #[.int .u32 pa, .int .i64 pm]] W fun e w' => e = .returned (.tuple #[.agg #[.int .u32 pa, .int .i64 pm, .int .i64 1, .int .i64 1, .int .i64 0, .int .i64 0, .int .u32 0, .int .i64 0, .bool true], .int .i64 0]) ∧ Below W.heap.size W w') := Lib.hid (fun W => HO.out W)
    have heq := fun W => eq_self pa pm 1 1 0 0 0 0 true W
    clear HO
    cases or
    all_goals
      simp only [errC, if_true, Bool.false_eq_true, if_false] at HC
      go_enter Tryd.func5, Tryd.ntmps5
      go_wp2_with fail
      refine (HC.out _).mono ?_
      rintro e w1 ⟨rfl, b1⟩
      obtain ⟨yr, yp, BB⟩ := Y.out
      replace yr := yr.below b1 yr.lt
      replace yp := yp.below b1 yp.lt
      replace BB := bnext BB b1
      have c0 := (yr).cell 0
      have c1 := (yr).cell 1
      have c2 := (yr).cell 2
      have c3 := (yr).cell 3
      have c4 := (yr).cell 4
      have c5 := (yr).cell 5
      have c6 := (yr).cell 6
      have c7 := (yr).cell 7
      have c8 := (yr).cell 8
      simp only [List.getElem?_toArray, List.getElem?_cons_zero, List.getElem?_cons_succ] at c0 c1 c2 c3 c4 c5 c6 c7 c8
      have k0 := (yp).cell 0
      have k1 := (yp).cell 1
      simp only [List.getElem?_toArray, List.getElem?_cons_zero, List.getElem?_cons_succ] at k0 k1
      have Y2 := Lib.hid (And.intro yr (And.intro yp BB))
      clear yr yp BB b1
      go_wp2_with (go_at_call 12; refine (num_any _ _).mono ?_; rintro e wn ⟨rfl, rfl⟩)
      refine (HO2.out _).mono ?_
      rintro e w2 ⟨rfl, b2⟩
      obtain ⟨yr, yp, BB⟩ := Y2.out
      clear c0 c1 c2 c3 c4 c5 c6 c7 c8 k0 k1
      have yo := Blk.new w2 31 #[.int .u32 pa, .int .i64 pm, .int .i64 1, .int .i64 1, .int .i64 0, .int .i64 0, .int .u32 0, .int .i64 0, .bool true]
      replace yr := (yr.below b2 yr.lt).alloc (.cells #[.int .u32 pa, .int .i64 pm, .int .i64 1, .int .i64 1, .int .i64 0, .int .i64 0, .int .u32 0, .int .i64 0, .bool true] 31)
      replace yp := (yp.below b2 yp.lt).alloc (.cells #[.int .u32 pa, .int .i64 pm, .int .i64 1, .int .i64 1, .int .i64 0, .int .i64 0, .int .u32 0, .int .i64 0, .bool true] 31)
      replace BB := balloc (bnext BB b2) (.cells #[.int .u32 pa, .int .i64 pm, .int .i64 1, .int .i64 1, .int .i64 0, .int .i64 0, .int .u32 0, .int .i64 0, .bool true] 31)
      clear b2
      generalize hWx : w2.alloc (.cells #[.int .u32 pa, .int .i64 pm, .int .i64 1, .int .i64 1, .int .i64 0, .int .i64 0, .int .u32 0, .int .i64 0, .bool true] 31) = Wx at *
      have HWx := Lib.hid hWx
      clear hWx
      have c0 := fun v : Sub Wx => ((yr).below v.2 (yr).lt).cell 0
      have c1 := fun v : Sub Wx => ((yr).below v.2 (yr).lt).cell 1
      have c2 := fun v : Sub Wx => ((yr).below v.2 (yr).lt).cell 2
      have c3 := fun v : Sub Wx => ((yr).below v.2 (yr).lt).cell 3
      have c4 := fun v : Sub Wx => ((yr).below v.2 (yr).lt).cell 4
      have c5 := fun v : Sub Wx => ((yr).below v.2 (yr).lt).cell 5
      have c6 := fun v : Sub Wx => ((yr).below v.2 (yr).lt).cell 6
      have c7 := fun v : Sub Wx => ((yr).below v.2 (yr).lt).cell 7
      have c8 := fun v : Sub Wx => ((yr).below v.2 (yr).lt).cell 8
      simp only [List.getElem?_toArray, List.getElem?_cons_zero, List.getElem?_cons_succ] at c0 c1 c2 c3 c4 c5 c6 c7 c8
      have k0 := fun v : Sub Wx => ((yp).below v.2 (yp).lt).cell 0
      have k1 := fun v : Sub Wx => ((yp).below v.2 (yp).lt).cell 1
      simp only [List.getElem?_toArray, List.getElem?_cons_zero, List.getElem?_cons_succ] at k0 k1
      have x0 := fun v : Sub Wx => ((yo).below v.2 (yo).lt).cell 0
      have x1 := fun v : Sub Wx => ((yo).below v.2 (yo).lt).cell 1
      have x2 := fun v : Sub Wx => ((yo).below v.2 (yo).lt).cell 2
      have x3 := fun v : Sub Wx => ((yo).below v.2 (yo).lt).cell 3
      have x4 := fun v : Sub Wx => ((yo).below v.2 (yo).lt).cell 4
      have x5 := fun v : Sub Wx => ((yo).below v.2 (yo).lt).cell 5
      have x6 := fun v : Sub Wx => ((yo).below v.2 (yo).lt).cell 6
      have x7 := fun v : Sub Wx => ((yo).below v.2 (yo).lt).cell 7
      have x8 := fun v : Sub Wx => ((yo).below v.2 (yo).lt).cell 8
      simp only [List.getElem?_toArray, List.getElem?_cons_zero, List.getElem?_cons_succ] at x0 x1 x2 x3 x4 x5 x6 x7 x8
      have hne : Nonempty (Sub Wx) := ⟨⟨_, Below.refl _ _⟩⟩
      have Y3 := Lib.hid (And.intro yr (And.intro yp (And.intro yo BB)))
      clear yr yp yo BB
      go_wp2_with fail
      simp only [HWx.out]
      clear HWx
      refine region_sub (by kernel_rfl) (by kernel_rfl) ?_
      repeat (first | go_big_quiet_step ((first | (go_at_call 18; exact sub_below (HR.out _)) | (go_at_call 19; exact sub_below (HT.out _)) | (go_at_call 20; exact sub_below (HU.out _)))) | quiet_step ((first | (go_at_call 18; exact sub_below (HR.out _)) | (go_at_call 19; exact sub_below (HT.out _)) | (go_at_call 20; exact sub_below (HU.out _)))))
      refine wpQuiet_nil ?_
      rintro _ ⟨v, rfl⟩
      obtain ⟨yr, yp, yo, BB⟩ := Y3.out
      clear c0 c1 c2 c3 c4 c5 c6 c7 c8 k0 k1 x0 x1 x2 x3 x4 x5 x6 x7 x8
      replace yp := yp.below v.2 yp.lt
      replace yo := yo.below v.2 yo.lt
      replace BB := bnext BB v.2
      clear yr
      obtain ⟨w3, b3⟩ := v
      dsimp only at yp yo BB ⊢
      clear b3
      have k0 := (yp).cell 0
      have k1 := (yp).cell 1
      simp only [List.getElem?_toArray, List.getElem?_cons_zero, List.getElem?_cons_succ] at k0 k1
      have Y4 := Lib.hid (And.intro yp (And.intro yo BB))
      clear yp yo BB
      go_wp2_with fail
      refine (HG.out _).mono ?_
      rintro e w4 ⟨rfl, b4⟩
      obtain ⟨yp, yo, BB⟩ := Y4.out
      clear k0 k1
      replace yp := yp.below b4 yp.lt
      replace yo := yo.below b4 yo.lt
      replace BB := bnext BB b4
      clear b4
      have k0 := fun v : Sub w4 => ((yp).below v.2 (yp).lt).cell 0
      have k1 := fun v : Sub w4 => ((yp).below v.2 (yp).lt).cell 1
      simp only [List.getElem?_toArray, List.getElem?_cons_zero, List.getElem?_cons_succ] at k0 k1
      have x0 := fun v : Sub w4 => ((yo).below v.2 (yo).lt).cell 0
      have x1 := fun v : Sub w4 => ((yo).below v.2 (yo).lt).cell 1
      have x2 := fun v : Sub w4 => ((yo).below v.2 (yo).lt).cell 2
      have x3 := fun v : Sub w4 => ((yo).below v.2 (yo).lt).cell 3
      have x4 := fun v : Sub w4 => ((yo).below v.2 (yo).lt).cell 4
      have x5 := fun v : Sub w4 => ((yo).below v.2 (yo).lt).cell 5
      have x6 := fun v : Sub w4 => ((yo).below v.2 (yo).lt).cell 6
      have x7 := fun v : Sub w4 => ((yo).below v.2 (yo).lt).cell 7
      have x8 := fun v : Sub w4 => ((yo).below v.2 (yo).lt).cell 8
      simp only [List.getElem?_toArray, List.getElem?_cons_zero, List.getElem?_cons_succ] at x0 x1 x2 x3 x4 x5 x6 x7 x8
      have HWS := Lib.hid (fun v : Sub w4 => HW.out v.1 (bnext BB v.2))
      have hne2 : Nonempty (Sub w4) := ⟨⟨_, Below.refl _ _⟩⟩
      clear yp yo
      go_wp2_with fail
      refine region_sub (by kernel_rfl) (by kernel_rfl) ?_
      repeat (first | go_big_quiet_step ((first | (go_at_call 22; exact sub_below (HP.out _)) | (go_at_call 12; exact sub_same (num_any _ _)) | (go_at_call 9; exact sub_below (HWS.out _)))) | quiet_step ((first | (go_at_call 22; exact sub_below (HP.out _)) | (go_at_call 12; exact sub_same (num_any _ _)) | (go_at_call 9; exact sub_below (HWS.out _)))))
      refine wpQuiet_nil ?_
      rintro _ ⟨v, rfl⟩
      clear k0 k1 x0 x1 x2 x3 x4 x5 x6 x7 x8
      go_wp2_with fail
      go_ret
      exact ⟨rfl, bnext BB v.2⟩
end Go.Proofs.YtgjeejdebneoaaaDoor
