/- FaceHolds: the walk. -/
import Derived.Test.YtfgbliglgdkgpaaDoorFaD
namespace Go.Proofs.YtfgbliglgdkgpaaDoor
set_option linter.unusedVariables false
set_option linter.unusedSimpArgs false
open Go.RowKit
set_option maxRecDepth 100000
def nI (b : Bool) : Int := if b then 1 else 0
theorem ls_below {w w' : World} {B n c : Nat} {A : Option Addr} {l : List Fc} (h : Ls w B A n c l) (hb : Below B w w') : Ls w' B A n c l := ⟨h.len, h.cap, h.rd.below hb, h.fit⟩
set_option maxHeartbeats 4000000 in
theorem faceholds_walk (l : List Fc) (n c : Nat) (A : Option Addr) (a : Nat) (w : World) (hL : Ls w w.heap.size A n c l) (ha : a < 4294967296) (hR : RelsAt w) :
    Calls Tryd.prog 3 #[.slice A n c, .int .u32 a] w fun e w' => e = .returned (.bool true) ∧ Below w.heap.size w w' := by
  have HL := Lib.hid hL
  have hcap := hL.cap
  have HWK := Lib.hid (fun W (hb : Below w.heap.size w W) => works9_any W (hR.below hb))
  have HR := Lib.hid hR
  clear hL hR
  by_cases h16 : 16 < n
  · have g1 : decide ((16 : Int) < n) = true := decide_eq_true (by omega)
    have g1' : decide (16 < n) = true := decide_eq_true (by omega)
    go_enter Tryd.func3, Tryd.ntmps3
    go_wp2_with fail
    refine (HWK.out _ (Below.refl _ _)).mono ?_
    rintro e w1 ⟨rfl, b1⟩
    go_wp2_with fail
    go_ret
    exact ⟨rfl, b1⟩
  have g1 : decide ((16 : Int) < n) = false := decide_eq_false (by omega)
  have g1' : decide (16 < n) = false := decide_eq_false (by omega)
  have HNW := Lib.hid (new_any l n c w.heap.size A w HL.out (Nat.le_refl _) HR.out (by omega))
  go_enter Tryd.func3, Tryd.ntmps3
  go_wp2_with fail
  refine HNW.out.mono ?_
  rintro e w1 ⟨(⟨h0, g, v, rfl, hF⟩ | ⟨hno, rfl⟩), b1⟩
  case inr =>
    have g2 : ((newE l : Int) != 0) = true := by rw [bne_iff_ne]; exact hno
    clear HNW hno
    generalize newE l = z at *
    go_wp2_with (first | (go_at_call 10; refine (num_any _ _).mono ?_; rintro e w' ⟨rfl, rfl⟩) | (go_at_call 8; refine (HWK.out _ b1).mono ?_; rintro e w2 ⟨rfl, b2⟩))
    go_ret
    exact ⟨rfl, bnext b1 b2⟩
  have HF := Lib.hid hF
  have HOK := Lib.hid (show okL l = true by
    unfold newE at h0
    rw [if_neg (by rw [HL.out.len]; omega)] at h0
    cases hk : okL l
    · rw [hk] at h0; exact absurd h0 (by decide)
    · rfl)
  clear HNW hF h0
  go_wp2_with (go_at_call 10; refine (num_any _ _).mono ?_; rintro e w' ⟨rfl, rfl⟩)
  go_loopw [7, 8, 9] (fun nz tz i wr => ∃ j : Nat, ∃ t z : Int, j ≤ n ∧ i = .int .i64 j ∧ nz = .int .i64 z ∧ Hid (z = nI (netB (l.take j) a)) ∧ tz = .int .i64 t ∧ TkB l a j t ∧ Below w.heap.size w wr ∧ Fs wr w.heap.size g v l) (fun _ _ i _ => n - (intOf i).toNat)
  case atStart => exact ⟨0, -1, 0, Nat.zero_le _, rfl, rfl, Lib.hid (by simp [netB, nI]), rfl, .inl ⟨rfl, fun i hi => by omega⟩, b1, HF.out⟩
  case round =>
    obtain ⟨j, t, z, hj, rfl, rfl, HZ, rfl, htk, hb, hfs⟩ := hrel
    have HTK := Lib.hid htk
    have HB := Lib.hid hb
    have HFS := Lib.hid hfs
    clear htk hb hfs
    by_cases hlt : j < n
    · obtain ⟨x, hx⟩ : ∃ x, l[j]? = some x := ⟨l[j]'(by rw [HL.out.len]; exact hlt), List.getElem?_eq_getElem _⟩
      obtain ⟨b, off, rfl, _, q0, q1, q2, q3⟩ := fc_at (HL.out.rd.below HB.out) hx
      have HX := Lib.hid hx
      have hfit := HL.out.fit x (List.mem_of_getElem? hx)
      have HH := Lib.hid (fun W => refHas_any x.na x.nl a W hfit.1 ha)
      have HST := Lib.hid (net_step (a := a) hx)
      have HNN := Lib.hid (fun h => net_none (a := a) HOK.out hx h)
      have hst : netB (l.take (j + 1)) a = (netB (l.take j) a || hasF (x.na, x.nl) a) := HST.out
      have hnn : hasF (x.na, x.nl) a = true → netB (l.take j) a = false := HNN.out
      have HN2 := Lib.hid (show hasF (x.na, x.nl) a = false → netB (l.take (j + 1)) a = netB (l.take j) a from fun h => by rw [hst, h, Bool.or_false])
      have HN1 := Lib.hid (show hasF (x.na, x.nl) a = true → netB (l.take (j + 1)) a = true from fun h => by rw [hst, h, Bool.or_true])
      have HN0 := Lib.hid hnn
      have hq3 : off + j * 4 + 3 < 18446744073709551616 ∨ True := .inr trivial
      clear hx hfit HST HNN hst hnn hq3
      have bl := cell_lt q3
      have HFM := Lib.hid (fun W (hW : Below wr.heap.size wr W) => from_any (j : Int) a ha (HFS.out.below hW))
      have hup := fun (h : fromE l j a = 0) => (from_zero HX.out h).1
      have htn : fromE l j a ≠ 0 → TkB l a (j + 1) t := fun h => tk_no HTK.out h
      have hty : fromE l j a = 0 → t = -1 ∧ TkB l a (j + 1) j := fun h => tk_yes HOK.out (by rw [HL.out.len]; exact hlt) HTK.out h
      have HUP := Lib.hid hup
      have HTN := Lib.hid htn
      have HTY := Lib.hid hty
      clear hup htn hty
      generalize fromE l (j : Int) a = fe at *
      obtain ⟨na, nl, ad, up⟩ := x
      simp only at q0 q1 q2 q3 HH HN2 HN1 HN0 HUP
      by_cases hfe : fe = 0
      case' pos =>
        obtain rfl := hfe
        obtain rfl := HUP.out rfl
        obtain ⟨rfl, ht2⟩ := HTY.out rfl
        have HT2 := Lib.hid ht2
        clear ht2 HUP HTY HTN
      case' neg =>
        have g5 : (fe == 0) = false := by rw [beq_eq_false_iff_ne]; exact hfe
        have HT2 := Lib.hid (HTN.out hfe)
        clear HUP HTY HTN hfe
      all_goals
        cases hh : hasF (na, nl) a
        case' false =>
          have HNN := Lib.hid (show z = nI (netB (l.take (j + 1)) a) by rw [HN2.out hh]; exact HZ.out)
        case' true =>
          obtain rfl : z = 0 := by rw [HZ.out, HN0.out hh]; rfl
          have HNN := Lib.hid (show (1 : Int) = nI (netB (l.take (j + 1)) a) by rw [HN1.out hh]; rfl)
        all_goals
          rw [hh] at HH
          clear hh HN0 HN1 HN2
          go_wp2_with fail
          refine (HH.out _).mono ?_
          rintro e w2 ⟨rfl, b2⟩
          have r3 := (b2.cell bl).trans q3
          go_wp2_with fail
          refine (HFM.out w2 b2).mono ?_
          rintro e w3 ⟨rfl, b3⟩
          have r4 := (b3.cell (cell_lt r3)).trans r3
          go_wp2_with (go_at_call 10; refine (num_any _ _).mono ?_; rintro e w' ⟨rfl, rfl⟩)
          go_roundw
          case rel => exact ⟨j + 1, _, _, by omega, by go_num, by first | rfl | go_num, HNN, rfl, HT2.out, bnext (bnext HB.out b2) b3, (HFS.out.below b2).below b3⟩
          case measure => simp [intOf]; omega
    · obtain rfl : j = n := by omega
      have HEND := Lib.hid (tk_end HOK.out (a := a) (t := t) (by rw [HL.out.len]; exact HTK.out))
      have HTO := Lib.hid (to_any a ha HFS.out)
      have hne : netB (l.take j) a = netB l a := by rw [List.take_of_length_le (by rw [HL.out.len]; exact Nat.le_refl _)]
      have hz := HZ.out
      rw [hne] at hz
      clear hne HZ
      have hend := HEND.out
      clear HEND HTK
      generalize netB l a = nb at *
      generalize firstF (toP a) l = fi at *
      generalize l.any (toP a) = an at *
      rcases hend with ⟨rfl, rfl⟩ | ⟨rfl, rfl, rfl⟩ | ⟨rfl, rfl, rfl⟩
      case' inl => cases nb
      all_goals
        simp only [nI, if_true, Bool.false_eq_true, if_false] at hz
        subst hz
      all_goals
        have hfi : decide ((fi : Int) < 0) = false := decide_eq_false (by omega)
        have hfi2 : ((fi : Int) == (fi : Int)) = true := by simp
        go_wp2_with fail
        refine HTO.out.mono ?_
        rintro e w2 ⟨rfl, b2⟩
        have HX2 := Lib.hid (bnext HB.out b2)
        go_wp2_with (go_at_call 8; refine (HWK.out _ HX2.out).mono ?_; rintro e w3 ⟨rfl, b3⟩)
        go_ret
        exact ⟨rfl, bnext HX2.out b3⟩
end Go.Proofs.YtfgbliglgdkgpaaDoor
