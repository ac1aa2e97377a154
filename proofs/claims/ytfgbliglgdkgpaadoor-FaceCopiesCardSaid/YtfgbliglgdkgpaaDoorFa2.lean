/- face: Check; the document's Inside and Right. -/
import Derived.Test.YtfgbliglgdkgpaaDoorFa1
import Derived.Test.YtfgbliglgdkgpaaDoorKindR
namespace Go.Proofs.YtfgbliglgdkgpaaDoor
set_option linter.unusedVariables false
set_option linter.unusedSimpArgs false
open Go.RowKit
set_option maxRecDepth 100000
theorem okF_not {f : Fc} (h : okP f.net = false ∨ ¬ 1 ≤ f.nl ∨ ¬ f.nl ≤ 30 ∨ hasF f.net f.ad = false ∨ endF f.net f.ad = true ∨ kindF f.ad ≠ 6) : okF f = false := by
  unfold okF
  rcases h with h | h | h | h | h | h <;> simp [h]
theorem okF_yes {f : Fc} (h0 : okP f.net = true) (h1 : 1 ≤ f.nl) (h2 : f.nl ≤ 30) (h3 : hasF f.net f.ad = true) (h4 : endF f.net f.ad = false) (h5 : kindF f.ad = 6) : okF f = true := by
  unfold okF
  simp [h0, h1, h2, h3, h4, h5]

set_option maxHeartbeats 4000000 in
theorem fcheck_any (na : Nat) (nl : Int) (ad : Nat) (up : Bool) (w : World) (ha : na < 4294967296) (hd : ad < 4294967296) :
    Calls Tryd.prog 14 #[.agg #[.int .u32 na, .int .i64 nl, .int .u32 ad, .bool up]] w fun e w' => e = .returned (.int .i64 (if okF ⟨na, nl, ad, up⟩ then 0 else 2)) ∧ Below w.heap.size w w' := by
  have HC := Lib.hid (fun W => check_any na nl W ha)
  have HH := Lib.hid (fun W => has_any na nl ad W ha hd)
  have HK := Lib.hid (fun W => kind_any ad W hd)
  by_cases h0 : okP (na, nl) = false
  · rw [okF_not (f := ⟨na, nl, ad, up⟩) (.inl h0)]
    rw [h0] at HC
    simp only [Bool.false_eq_true, if_false] at HC
    simp only [if_true, Bool.false_eq_true, if_false]
    clear h0
    go_enter Tryd.func14, Tryd.ntmps14
    go_wp2_with fail
    refine scope_fwd 0 rfl ?_
    go_wp2_with fail
    refine (HC.out _).mono ?_
    rintro e w1 ⟨rfl, b1⟩
    have K1 := (Blk.new w 35 #[.int .u32 na, .int .i64 nl, .int .u32 ad, .bool up]).below b1 (by simp)
    have c1 := bnext (balloc (Below.refl _ w) _) b1
    have d0 := (K1).cell 0
    have d1 := (K1).cell 1
    have d2 := (K1).cell 2
    have d3 := (K1).cell 3
    simp only [List.getElem?_toArray, List.getElem?_cons_zero, List.getElem?_cons_succ] at d0 d1 d2 d3
    have z1 := K1.lt
    clear b1
    go_wp2_with fail
    go_step3
    refine ⟨rfl, ?_⟩
    go_wp2
    rw [Exit.noGoto_ret]
    go_ret
    exact ⟨rfl, c1⟩
  by_cases h1 : nl < 1
  · rw [okF_not (f := ⟨na, nl, ad, up⟩) (.inr (.inl (by show ¬ 1 ≤ nl; omega)))]
    rw [show okP (na, nl) = true by simpa using h0] at HC
    simp only [if_true, Bool.false_eq_true, if_false] at HC
    have g1 : decide (nl < 1) = true := decide_eq_true h1
    simp only [if_true, Bool.false_eq_true, if_false]
    clear h0 h1
    go_enter Tryd.func14, Tryd.ntmps14
    go_wp2_with fail
    refine scope_fwd 0 rfl ?_
    go_wp2_with fail
    refine (HC.out _).mono ?_
    rintro e w1 ⟨rfl, b1⟩
    have K1 := (Blk.new w 35 #[.int .u32 na, .int .i64 nl, .int .u32 ad, .bool up]).below b1 (by simp)
    have c1 := bnext (balloc (Below.refl _ w) _) b1
    have d0 := (K1).cell 0
    have d1 := (K1).cell 1
    have d2 := (K1).cell 2
    have d3 := (K1).cell 3
    simp only [List.getElem?_toArray, List.getElem?_cons_zero, List.getElem?_cons_succ] at d0 d1 d2 d3
    have z1 := K1.lt
    clear b1
    go_wp2_with fail
    go_step3
    refine ⟨rfl, ?_⟩
    go_wp2
    rw [Exit.noGoto_ret]
    go_ret
    exact ⟨rfl, c1⟩
  by_cases h2 : 30 < nl
  · rw [okF_not (f := ⟨na, nl, ad, up⟩) (.inr (.inr (.inl (by show ¬ nl ≤ 30; omega))))]
    rw [show okP (na, nl) = true by simpa using h0] at HC
    simp only [if_true, Bool.false_eq_true, if_false] at HC
    have g1 : decide (nl < 1) = false := decide_eq_false h1
    have g2 : decide (30 < nl) = true := decide_eq_true h2
    simp only [if_true, Bool.false_eq_true, if_false]
    clear h0 h1 h2
    go_enter Tryd.func14, Tryd.ntmps14
    go_wp2_with fail
    refine scope_fwd 0 rfl ?_
    go_wp2_with fail
    refine (HC.out _).mono ?_
    rintro e w1 ⟨rfl, b1⟩
    have K1 := (Blk.new w 35 #[.int .u32 na, .int .i64 nl, .int .u32 ad, .bool up]).below b1 (by simp)
    have c1 := bnext (balloc (Below.refl _ w) _) b1
    have d0 := (K1).cell 0
    have d1 := (K1).cell 1
    have d2 := (K1).cell 2
    have d3 := (K1).cell 3
    simp only [List.getElem?_toArray, List.getElem?_cons_zero, List.getElem?_cons_succ] at d0 d1 d2 d3
    have z1 := K1.lt
    clear b1
    go_wp2_with fail
    go_step3
    refine ⟨rfl, ?_⟩
    go_wp2
    rw [Exit.noGoto_ret]
    go_ret
    exact ⟨rfl, c1⟩
  by_cases h3 : hasF (na, nl) ad = false
  · rw [okF_not (f := ⟨na, nl, ad, up⟩) (.inr (.inr (.inr (.inl h3))))]
    rw [show okP (na, nl) = true by simpa using h0] at HC
    simp only [if_true, Bool.false_eq_true, if_false] at HC
    have g1 : decide (nl < 1) = false := decide_eq_false h1
    have g2 : decide (30 < nl) = false := decide_eq_false h2
    rw [h3] at HH
    simp only [if_true, Bool.false_eq_true, if_false]
    clear h0 h1 h2 h3
    go_enter Tryd.func14, Tryd.ntmps14
    go_wp2_with fail
    refine scope_fwd 0 rfl ?_
    go_wp2_with fail
    refine (HC.out _).mono ?_
    rintro e w1 ⟨rfl, b1⟩
    have K1 := (Blk.new w 35 #[.int .u32 na, .int .i64 nl, .int .u32 ad, .bool up]).below b1 (by simp)
    have c1 := bnext (balloc (Below.refl _ w) _) b1
    have d0 := (K1).cell 0
    have d1 := (K1).cell 1
    have d2 := (K1).cell 2
    have d3 := (K1).cell 3
    simp only [List.getElem?_toArray, List.getElem?_cons_zero, List.getElem?_cons_succ] at d0 d1 d2 d3
    have z1 := K1.lt
    clear b1
    go_wp2_with fail
    refine (HH.out _).mono ?_
    rintro e w2 ⟨rfl, b2⟩
    have K2 := K1.below b2 K1.lt
    have c2 := bnext c1 b2
    clear K1 z1 b2 c1
    clear d0 d1 d2 d3
    have d0 := (K2).cell 0
    have d1 := (K2).cell 1
    have d2 := (K2).cell 2
    have d3 := (K2).cell 3
    simp only [List.getElem?_toArray, List.getElem?_cons_zero, List.getElem?_cons_succ] at d0 d1 d2 d3
    have z2 := K2.lt
    go_wp2_with fail
    go_step3
    refine ⟨rfl, ?_⟩
    go_wp2
    rw [Exit.noGoto_ret]
    go_ret
    exact ⟨rfl, c2⟩
  by_cases h4 : endF (na, nl) ad = true
  · rw [okF_not (f := ⟨na, nl, ad, up⟩) (.inr (.inr (.inr (.inr (.inl h4)))))]
    rw [show okP (na, nl) = true by simpa using h0] at HC
    simp only [if_true, Bool.false_eq_true, if_false] at HC
    have g1 : decide (nl < 1) = false := decide_eq_false h1
    have g2 : decide (30 < nl) = false := decide_eq_false h2
    rw [show hasF (na, nl) ad = true by simpa using h3] at HH
    obtain ⟨k, hk, hk2, hz⟩ := okP_bounds (show okP (na, nl) = true by simpa using h0)
    have HE := Lib.hid (fun W => isEnd_any na k ad W ha hk2 hz)
    rw [← hk] at HE
    clear hk hk2 hz
    rw [h4] at HE
    simp only [if_true, Bool.false_eq_true, if_false]
    clear h0 h1 h2 h3 h4
    go_enter Tryd.func14, Tryd.ntmps14
    go_wp2_with fail
    refine scope_fwd 0 rfl ?_
    go_wp2_with fail
    refine (HC.out _).mono ?_
    rintro e w1 ⟨rfl, b1⟩
    have K1 := (Blk.new w 35 #[.int .u32 na, .int .i64 nl, .int .u32 ad, .bool up]).below b1 (by simp)
    have c1 := bnext (balloc (Below.refl _ w) _) b1
    have d0 := (K1).cell 0
    have d1 := (K1).cell 1
    have d2 := (K1).cell 2
    have d3 := (K1).cell 3
    simp only [List.getElem?_toArray, List.getElem?_cons_zero, List.getElem?_cons_succ] at d0 d1 d2 d3
    have z1 := K1.lt
    clear b1
    go_wp2_with fail
    refine (HH.out _).mono ?_
    rintro e w2 ⟨rfl, b2⟩
    have K2 := K1.below b2 K1.lt
    have c2 := bnext c1 b2
    clear K1 z1 b2 c1
    clear d0 d1 d2 d3
    have d0 := (K2).cell 0
    have d1 := (K2).cell 1
    have d2 := (K2).cell 2
    have d3 := (K2).cell 3
    simp only [List.getElem?_toArray, List.getElem?_cons_zero, List.getElem?_cons_succ] at d0 d1 d2 d3
    have z2 := K2.lt
    go_wp2_with fail
    refine (HE.out _).mono ?_
    rintro e w3 ⟨rfl, b3⟩
    have K3 := K2.below b3 K2.lt
    have c3 := bnext c2 b3
    clear K2 z2 b3 c2
    clear d0 d1 d2 d3
    have d0 := (K3).cell 0
    have d1 := (K3).cell 1
    have d2 := (K3).cell 2
    have d3 := (K3).cell 3
    simp only [List.getElem?_toArray, List.getElem?_cons_zero, List.getElem?_cons_succ] at d0 d1 d2 d3
    have z3 := K3.lt
    go_wp2_with fail
    go_step3
    refine ⟨rfl, ?_⟩
    go_wp2
    rw [Exit.noGoto_ret]
    go_ret
    exact ⟨rfl, c3⟩
  by_cases h5 : ¬ kindF ad = 6
  · rw [okF_not (f := ⟨na, nl, ad, up⟩) (.inr (.inr (.inr (.inr (.inr h5)))))]
    rw [show okP (na, nl) = true by simpa using h0] at HC
    simp only [if_true, Bool.false_eq_true, if_false] at HC
    have g1 : decide (nl < 1) = false := decide_eq_false h1
    have g2 : decide (30 < nl) = false := decide_eq_false h2
    rw [show hasF (na, nl) ad = true by simpa using h3] at HH
    obtain ⟨k, hk, hk2, hz⟩ := okP_bounds (show okP (na, nl) = true by simpa using h0)
    have HE := Lib.hid (fun W => isEnd_any na k ad W ha hk2 hz)
    rw [← hk] at HE
    clear hk hk2 hz
    rw [show endF (na, nl) ad = false by simpa using h4] at HE
    have g5 : (((kindF ad : Nat) : Int) != 6) = true := by rw [bne_iff_ne]; omega
    generalize kindF ad = kd at *
    simp only [if_true, Bool.false_eq_true, if_false]
    clear h0 h1 h2 h3 h4 h5
    go_enter Tryd.func14, Tryd.ntmps14
    go_wp2_with fail
    refine scope_fwd 0 rfl ?_
    go_wp2_with fail
    refine (HC.out _).mono ?_
    rintro e w1 ⟨rfl, b1⟩
    have K1 := (Blk.new w 35 #[.int .u32 na, .int .i64 nl, .int .u32 ad, .bool up]).below b1 (by simp)
    have c1 := bnext (balloc (Below.refl _ w) _) b1
    have d0 := (K1).cell 0
    have d1 := (K1).cell 1
    have d2 := (K1).cell 2
    have d3 := (K1).cell 3
    simp only [List.getElem?_toArray, List.getElem?_cons_zero, List.getElem?_cons_succ] at d0 d1 d2 d3
    have z1 := K1.lt
    clear b1
    go_wp2_with fail
    refine (HH.out _).mono ?_
    rintro e w2 ⟨rfl, b2⟩
    have K2 := K1.below b2 K1.lt
    have c2 := bnext c1 b2
    clear K1 z1 b2 c1
    clear d0 d1 d2 d3
    have d0 := (K2).cell 0
    have d1 := (K2).cell 1
    have d2 := (K2).cell 2
    have d3 := (K2).cell 3
    simp only [List.getElem?_toArray, List.getElem?_cons_zero, List.getElem?_cons_succ] at d0 d1 d2 d3
    have z2 := K2.lt
    go_wp2_with fail
    refine (HE.out _).mono ?_
    rintro e w3 ⟨rfl, b3⟩
    have K3 := K2.below b3 K2.lt
    have c3 := bnext c2 b3
    clear K2 z2 b3 c2
    clear d0 d1 d2 d3
    have d0 := (K3).cell 0
    have d1 := (K3).cell 1
    have d2 := (K3).cell 2
    have d3 := (K3).cell 3
    simp only [List.getElem?_toArray, List.getElem?_cons_zero, List.getElem?_cons_succ] at d0 d1 d2 d3
    have z3 := K3.lt
    go_wp2_with fail
    refine (HK.out _).mono ?_
    rintro e w4 ⟨rfl, b4⟩
    have c4 := bnext c3 b4
    clear K3 b4 c3
    go_wp2_with fail
    go_step3
    refine ⟨rfl, ?_⟩
    go_wp2
    rw [Exit.noGoto_ret]
    go_ret
    exact ⟨rfl, c4⟩
  rw [okF_yes (f := ⟨na, nl, ad, up⟩) (show okP (na, nl) = true by simpa using h0) (by show 1 ≤ nl; omega) (by show nl ≤ 30; omega) (show hasF (na, nl) ad = true by simpa using h3) (show endF (na, nl) ad = false by simpa using h4) (by simpa using h5)]
  rw [show okP (na, nl) = true by simpa using h0] at HC
  simp only [if_true, Bool.false_eq_true, if_false] at HC
  have g1 : decide (nl < 1) = false := decide_eq_false h1
  have g2 : decide (30 < nl) = false := decide_eq_false h2
  rw [show hasF (na, nl) ad = true by simpa using h3] at HH
  obtain ⟨k, hk, hk2, hz⟩ := okP_bounds (show okP (na, nl) = true by simpa using h0)
  have HE := Lib.hid (fun W => isEnd_any na k ad W ha hk2 hz)
  rw [← hk] at HE
  clear hk hk2 hz
  rw [show endF (na, nl) ad = false by simpa using h4] at HE
  have h5' : kindF ad = 6 := by simpa using h5
  rw [h5'] at HK
  clear h5'
  simp only [if_true, Bool.false_eq_true, if_false]
  clear h0 h1 h2 h3 h4 h5
  go_enter Tryd.func14, Tryd.ntmps14
  go_wp2_with fail
  refine scope_fwd 0 rfl ?_
  go_wp2_with fail
  refine (HC.out _).mono ?_
  rintro e w1 ⟨rfl, b1⟩
  have K1 := (Blk.new w 35 #[.int .u32 na, .int .i64 nl, .int .u32 ad, .bool up]).below b1 (by simp)
  have c1 := bnext (balloc (Below.refl _ w) _) b1
  have d0 := (K1).cell 0
  have d1 := (K1).cell 1
  have d2 := (K1).cell 2
  have d3 := (K1).cell 3
  simp only [List.getElem?_toArray, List.getElem?_cons_zero, List.getElem?_cons_succ] at d0 d1 d2 d3
  have z1 := K1.lt
  clear b1
  go_wp2_with fail
  refine (HH.out _).mono ?_
  rintro e w2 ⟨rfl, b2⟩
  have K2 := K1.below b2 K1.lt
  have c2 := bnext c1 b2
  clear K1 z1 b2 c1
  clear d0 d1 d2 d3
  have d0 := (K2).cell 0
  have d1 := (K2).cell 1
  have d2 := (K2).cell 2
  have d3 := (K2).cell 3
  simp only [List.getElem?_toArray, List.getElem?_cons_zero, List.getElem?_cons_succ] at d0 d1 d2 d3
  have z2 := K2.lt
  go_wp2_with fail
  refine (HE.out _).mono ?_
  rintro e w3 ⟨rfl, b3⟩
  have K3 := K2.below b3 K2.lt
  have c3 := bnext c2 b3
  clear K2 z2 b3 c2
  clear d0 d1 d2 d3
  have d0 := (K3).cell 0
  have d1 := (K3).cell 1
  have d2 := (K3).cell 2
  have d3 := (K3).cell 3
  simp only [List.getElem?_toArray, List.getElem?_cons_zero, List.getElem?_cons_succ] at d0 d1 d2 d3
  have z3 := K3.lt
  go_wp2_with fail
  refine (HK.out _).mono ?_
  rintro e w4 ⟨rfl, b4⟩
  have c4 := bnext c3 b4
  clear K3 b4 c3
  go_wp2_with fail
  rw [jump_ret]
  go_ret
  exact ⟨rfl, c4⟩
end Go.Proofs.YtfgbliglgdkgpaaDoor
