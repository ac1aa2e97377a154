/- GuardLooks: the walk. -/
import Derived.Test.YtlanfceilajifaaGreatDoorGu9
namespace Go.Proofs.YtlanfceilajifaaGreatDoor
set_option linter.unusedVariables false
set_option linter.unusedSimpArgs false
open Go.RowKit
set_option maxRecDepth 100000
set_option maxHeartbeats 8000000 in
theorem guardlooks_walk (l : List Fc) (n c : Nat) (A : Option Addr) (i : Int) (a : Nat) (b : List UInt8) (m cb : Nat) (Ab : Option Addr) (w : World) (hL : Ls w w.heap.size A n c l) (ha : a < 4294967296) (hb : b.length = m) (hrb : Rd w w.heap.size Ab (b.map b8)) (hmc : m ≤ cb ∧ cb ≤ 9223372036854775807) (hR : RelsAt w) (hw : WidthsAt w) :
    Calls Tryz.prog 3 #[.slice A n c, .int .i64 i, .int .u32 a, .slice Ab m cb] w fun e w' => e = .returned (.bool true) ∧ Below w.heap.size w w' := by
  have HW := Lib.hid (fun W (h : Below w.heap.size w W) => works16_any W (hR.below h) (hw.below h))
  have HL := Lib.hid hL
  have HR := Lib.hid hR
  have HWD := Lib.hid hw
  have HRB := Lib.hid hrb
  have HBL := Lib.hid hb
  clear hL hR hw hrb hb
  by_cases h16 : n ≤ 16
  case neg =>
    have d1 : decide ((16 : Int) < n) = true := decide_eq_true (by omega)
    have BB := Below.refl w.heap.size w
    go_enter Tryz.func3, Tryz.ntmps3
    go_wp2_with fail
    refine (HW.out _ BB).mono ?_
    rintro e w9 ⟨rfl, b9⟩
    go_wp2_with fail
    go_ret
    exact ⟨rfl, bnext BB b9⟩
  have d1 : decide ((16 : Int) < n) = false := decide_eq_false (by omega)
  by_cases h6 : m ≤ 600
  case neg =>
    have d2 : decide ((600 : Int) < m) = true := decide_eq_true (by omega)
    have BB := Below.refl w.heap.size w
    go_enter Tryz.func3, Tryz.ntmps3
    go_wp2_with fail
    refine (HW.out _ BB).mono ?_
    rintro e w9 ⟨rfl, b9⟩
    go_wp2_with fail
    go_ret
    exact ⟨rfl, bnext BB b9⟩
  have d2 : decide ((600 : Int) < m) = false := decide_eq_false (by omega)
  have HRN := Lib.hid (refNew_any l n c w.heap.size A w HL.out (Nat.le_refl _) (by omega))
  have HNW := Lib.hid (fun W (hB : Below w.heap.size w W) => fnew_any l n c w.heap.size A W ⟨HL.out.len, HL.out.cap, HL.out.rd.below hB, HL.out.fit⟩ hB.size (HR.out.below hB) (by omega))
  have HNE := Lib.hid (show newE l = newE l from rfl)
  by_cases hne : newE l = 0
  case neg =>
    obtain ⟨k, hk⟩ : ∃ k, newE l = k := ⟨_, rfl⟩
    rw [hk] at HRN hne
    have d3 : (k != 0) = true := by simpa using hne
    clear hk hne HNE
    go_enter Tryz.func3, Tryz.ntmps3
    go_wp2_with fail
    refine HRN.out.mono ?_
    rintro e w1 ⟨rfl, BB⟩
    go_wp2_with fail
    refine (HW.out _ BB).mono ?_
    rintro e w9 ⟨rfl, b9⟩
    go_wp2_with fail
    go_ret
    exact ⟨rfl, bnext BB b9⟩
  rw [hne] at HRN
  have HZ := Lib.hid hne
  clear hne HNE
  go_enter Tryz.func3, Tryz.ntmps3
  go_wp2_with fail
  refine HRN.out.mono ?_
  rintro e w1 ⟨rfl, BB⟩
  go_wp2_with fail
  refine (HNW.out _ BB).mono ?_
  rintro e w2 ⟨(⟨_, g, v, rfl, hF⟩ | ⟨hno, _⟩), b2⟩
  case inr => exact (hno HZ.out).elim
  replace BB := bnext BB b2
  have HC1 := Lib.hid (look_any hF i a ha b m HBL.out Ab cb (HWD.out.below BB) ((HRB.out.below BB).more BB.size) hmc.1 hmc.2)
  have HBB := Lib.hid BB
  clear hF BB b2
  go_wp2_with fail
  refine HC1.out.mono ?_
  rintro e w3 ⟨A1, c1, rfl, h1, h2, h3, b3⟩
  have BB := bnext HBB.out b3
  have y1 := Blk.new w3 35 #[.int .i64 (lookC (fromFE l i a) b), .slice A1 (lookL (fromFE l i a) b).length c1]
  replace BB := balloc BB (.cells #[.int .i64 (lookC (fromFE l i a) b), .slice A1 (lookL (fromFE l i a) b).length c1] 35)
  replace h3 := (h3.alloc (Nat.le_refl _) (.cells #[.int .i64 (lookC (fromFE l i a) b), .slice A1 (lookL (fromFE l i a) b).length c1] 35)).more (B' := (w3.alloc (.cells #[.int .i64 (lookC (fromFE l i a) b), .slice A1 (lookL (fromFE l i a) b).length c1] 35)).heap.size) (by simp)
  have HC2 := Lib.hid (reflook_any l n c A i a ha b m HBL.out Ab cb _ ⟨HL.out.len, HL.out.cap, (HL.out.rd.below BB).more BB.size, HL.out.fit⟩ ((HRB.out.below BB).more BB.size) hmc.1 hmc.2)
  have X1 := Lib.hid (And.intro y1 (And.intro h3 BB))
  clear y1 h3 BB b3 HC1 HBB
  go_wp2_with fail
  refine HC2.out.mono ?_
  rintro e w4 ⟨A2, c2, rfl, k1, k2, k3, b4⟩
  obtain ⟨y1, h3, BB⟩ := X1.out
  have y2 := Blk.new w4 35 #[.int .i64 (lookC (fromFE l i a) b), .slice A2 (lookL (fromFE l i a) b).length c2]
  replace k3 := (k3.alloc (Nat.le_refl _) (.cells #[.int .i64 (lookC (fromFE l i a) b), .slice A2 (lookL (fromFE l i a) b).length c2] 35)).more (B' := (w4.alloc (.cells #[.int .i64 (lookC (fromFE l i a) b), .slice A2 (lookL (fromFE l i a) b).length c2] 35)).heap.size) (by simp)
  replace b4 := balloc b4 (.cells #[.int .i64 (lookC (fromFE l i a) b), .slice A2 (lookL (fromFE l i a) b).length c2] 35)
  replace y1 := y1.below b4 y1.lt
  replace h3 := (h3.below b4).more b4.size
  replace BB := bnext BB b4
  have HC3 := Lib.hid (look_nil i a b m HBL.out Ab cb _ (HWD.out.below BB) ((HRB.out.below BB).more BB.size) hmc.1 hmc.2)
  have X2 := Lib.hid (And.intro y1 (And.intro h3 (And.intro y2 (And.intro k3 BB))))
  clear X1 y1 h3 y2 k3 BB b4 HC2
  go_wp2_with fail
  refine HC3.out.mono ?_
  rintro e w5 ⟨A3, c3, rfl, -, -, -, b5⟩
  rw [show lookC 1 b = 0 from rfl, show lookL 1 b = [] from rfl, show lookE 1 b = 1 from rfl]
  obtain ⟨y1, h3, y2, k3, BB⟩ := X2.out
  replace b5 := balloc b5 (.cells #[.int .i64 0, .slice A3 0 c3] 35)
  replace y1 := y1.below b5 y1.lt
  replace y2 := y2.below b5 y2.lt
  replace h3 := (h3.below b5).more b5.size
  replace k3 := (k3.below b5).more b5.size
  replace BB := bnext BB b5
  have HS := Lib.hid (refpksame_any (lookC (fromFE l i a) b) (lookC (fromFE l i a) b) (lookL (fromFE l i a) b) (lookL (fromFE l i a) b) _ _ c1 c2 rfl rfl A1 A2 _ h3 k3 (by omega))
  rw [decide_eq_true (And.intro rfl rfl)] at HS
  clear h3 k3 X2 b5 HC3 k1 k2 h1 h2
  generalize lookC (fromFE l i a) b = lc at *
  generalize (lookL (fromFE l i a) b).length = ln at *
  generalize lookE (fromFE l i a) b = le at *
  have e1 : (le == le) = true := by simp
  have p0 := (y1).cell 0
  have p1 := (y1).cell 1
  simp only [List.getElem?_toArray, List.getElem?_cons_zero, List.getElem?_cons_succ] at p0 p1
  have q0 := (y2).cell 0
  have q1 := (y2).cell 1
  simp only [List.getElem?_toArray, List.getElem?_cons_zero, List.getElem?_cons_succ] at q0 q1
  have HBB := Lib.hid BB
  clear y1 y2 BB
  simp only [List.length_nil]
  go_wp2_with (go_at_call 13; refine (num_any _ _).mono ?_; rintro e w' ⟨rfl, rfl⟩)
  refine HS.out.mono ?_
  rintro e w6 ⟨rfl, b6⟩
  have BB := bnext HBB.out b6
  clear p0 p1 q0 q1 b6
  go_wp2_with (go_at_call 13; refine (num_any _ _).mono ?_; rintro e w' ⟨rfl, rfl⟩)
  refine (HW.out _ BB).mono ?_
  rintro e w9 ⟨rfl, b9⟩
  go_wp2_with fail
  go_ret
  exact ⟨rfl, bnext BB b9⟩
end Go.Proofs.YtlanfceilajifaaGreatDoor
