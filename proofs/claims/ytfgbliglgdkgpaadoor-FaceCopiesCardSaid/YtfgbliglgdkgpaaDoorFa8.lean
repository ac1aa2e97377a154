/- face: the document's New, Own, To. -/
import Derived.Test.YtfgbliglgdkgpaaDoorFa7
namespace Go.Proofs.YtfgbliglgdkgpaaDoor
set_option linter.unusedVariables false
set_option linter.unusedSimpArgs false
open Go.RowKit
set_option maxRecDepth 100000
theorem stands4 (p q : Nat × Int) : standsF p q = 4 ↔ hldF p q = false ∧ hldF q p = false := by
  unfold standsF
  cases hldF p q <;> cases hldF q p <;> simp
theorem ap_symm (g f : Fc) : apB g f = decide (standsF f.net g.net = 4) := by
  unfold apB
  refine decide_eq_decide.2 ?_
  rw [stands4, stands4]
  exact And.comm
theorem any_in {l : List Fc} {p : Fc → Bool} {k j : Nat} {g : Fc} (h : l[k]? = some g) (hk : k < j) (hp : p g = true) : (l.take j).any p = true :=
  List.any_eq_true.2 ⟨g, by
    rw [List.mem_take_iff_getElem]
    have hl : k < l.length := by
      rcases Nat.lt_or_ge k l.length with h' | h'
      · exact h'
      · rw [List.getElem?_eq_none h'] at h; cases h
    exact ⟨k, by omega, by rw [List.getElem?_eq_getElem hl] at h; exact Option.some.inj h⟩, hp⟩

set_option maxHeartbeats 4000000 in
theorem refNew_any (l : List Fc) (n c B : Nat) (A : Option Addr) (w : World) (hL : Ls w B A n c l) (hB : B ≤ w.heap.size) (hn : n ≤ 1000) :
    Calls Tryd.prog 16 #[.slice A n c] w fun e w' => e = .returned (.int .i64 (newE l)) ∧ Below w.heap.size w w' := by
  have HL := Lib.hid hL
  have hcap := hL.cap
  clear hL
  by_cases h16 : 16 < n
  · rw [show newE l = 3 by unfold newE; rw [if_pos (by rw [HL.out.len]; exact h16)]]
    have g1 : decide ((16 : Int) < n) = true := decide_eq_true (by omega)
    have g1' : decide (16 < n) = true := decide_eq_true (by omega)
    go_enter Tryd.func16, Tryd.ntmps16
    go_wp2
    go_ret
    exact ⟨rfl, Below.refl _ _⟩
  · have g1 : decide ((16 : Int) < n) = false := decide_eq_false (by omega)
    have g1' : decide (16 < n) = false := decide_eq_false (by omega)
    have HNE := Lib.hid (show newE l = if okL l then 0 else 2 by unfold newE; rw [if_neg (by rw [HL.out.len]; exact h16)])
    go_enter Tryd.func16, Tryd.ntmps16
    go_wp2_with fail
    go_loopw [3] (fun i wr => ∃ j : Nat, j ≤ n ∧ i = .int .i64 j ∧ Below w.heap.size w wr ∧ ∀ i, i < j → okI l i = true) (fun i _ => n - (intOf i).toNat)
    case atStart => exact ⟨0, Nat.zero_le _, rfl, Below.refl _ _, fun i hi => by omega⟩
    case round =>
      obtain ⟨j, hj, rfl, hb, hok⟩ := hrel
      have HO := Lib.hid hok
      clear hok
      by_cases hlt : j < n
      · obtain ⟨x, hx⟩ : ∃ x, l[j]? = some x := ⟨l[j]'(by rw [HL.out.len]; exact hlt), List.getElem?_eq_getElem _⟩
        obtain ⟨b, off, rfl, hbb, q0, q1, q2, q3⟩ := fc_at (HL.out.rd.below (hb.mono hB)) hx
        have HX := Lib.hid hx
        have HFX := Lib.hid (HL.out.fit x (List.mem_of_getElem? hx))
        have HIJ := Lib.hid (okI_at hx)
        have HBAD := Lib.hid (show okI l j = false → newE l = 2 from fun h => by rw [HNE.out, okL_no (by rw [HL.out.len]; exact hlt) h]; rfl)
        have HC := Lib.hid (fun W => right9_any x.na x.nl x.ad x.up W HFX.out.1 HFX.out.2)
        have HB0 := Lib.hid hb
        clear hx hb
        cases hof : okF x
        · have HBD := Lib.hid (HBAD.out (by rw [HIJ.out, hof]; rfl))
          rw [show okF ⟨x.na, x.nl, x.ad, x.up⟩ = false from hof] at HC
          clear hof
          go_wp2_with fail
          refine (HC.out _).mono ?_
          rintro e w2 ⟨rfl, b2⟩
          go_wp2_with fail
          go_ret
          rw [HBD.out]
          exact ⟨rfl, bnext HB0.out b2⟩
        · rw [show okF ⟨x.na, x.nl, x.ad, x.up⟩ = true from hof] at HC
          have HOF := Lib.hid hof
          clear hof
          go_wp2_with fail
          refine (HC.out _).mono ?_
          rintro e w2 ⟨rfl, b2⟩
          have HB2 := Lib.hid (bnext HB0.out b2)
          have hj0 : (0 : Int) ≤ (j : Int) ∧ (j : Int) < (n : Int) := by omega
          clear b2 q0 q1 q2 q3
          go_wp2_with fail
          obtain ⟨wq, rfl⟩ : ∃ x, x = wr := ⟨_, rfl⟩
          go_loopw [4] (fun i wr' => ∃ k : Nat, k ≤ j ∧ i = .int .i64 k ∧ Below w.heap.size w wr' ∧ (l.take k).any (fun g => !apB g x) = false) (fun i _ => j - (intOf i).toNat)
          case atStart => exact ⟨0, Nat.zero_le _, rfl, HB2.out, by simp⟩
          case round =>
            obtain ⟨k, hk, rfl, hb3, hno⟩ := hrel
            have HNO := Lib.hid hno
            have HB3 := Lib.hid hb3
            clear hno
            by_cases hlk : k < j
            · obtain ⟨y, hy⟩ : ∃ y, l[k]? = some y := ⟨l[k]'(by rw [HL.out.len]; omega), List.getElem?_eq_getElem _⟩
              have HRD := Lib.hid (HL.out.rd.below (hb3.mono hB))
              obtain ⟨b', off', hE, hbb', p0, p1, _, _⟩ := fc_at HRD.out HX.out
              injection hE with hE
              injection hE with hE1 hE2
              subst hE1 hE2
              obtain ⟨b', off', hE, _, r0, r1, _, _⟩ := fc_at HRD.out hy
              injection hE with hE
              injection hE with hE1 hE2
              subst hE1 hE2
              have HY := Lib.hid hy
              have HOY := Lib.hid (okL_in HO.out (f := y) (by rw [List.mem_take_iff_getElem]; exact ⟨k, by rw [HL.out.len]; omega, by rw [List.getElem?_eq_getElem (by rw [HL.out.len]; omega)] at hy; exact Option.some.inj hy⟩))
              have HFY := Lib.hid (HL.out.fit y (List.mem_of_getElem? hy))
              obtain ⟨kx, hkx, _, hkx2, hzx⟩ := okF_bounds HOF.out
              obtain ⟨ky, hky, _, hky2, hzy⟩ := okF_bounds HOY.out
              have HS := Lib.hid (fun W => refStands_any x.na kx y.na ky W HFX.out.1 HFY.out.1 (by omega) (by omega) hzx hzy)
              have hap : apB y x = decide (standsF (x.na, (kx : Int)) (y.na, (ky : Int)) = 4) := by rw [ap_symm]; unfold Fc.net; rw [hkx, hky]
              rw [hkx] at p1
              rw [hky] at r1
              have hk0 : (0 : Int) ≤ (k : Int) ∧ (k : Int) < (n : Int) := by omega
              have hstep : apB y x = true → (l.take (k + 1)).any (fun g => !apB g x) = false := fun h => by
                rw [List.take_add_one, HY.out]
                simp [HNO.out, h]
              have hbad : apB y x = false → newE l = 2 := fun h => HBAD.out (by rw [HIJ.out, any_in HY.out hlk (by rw [h]; rfl)]; simp)
              have HSP := Lib.hid hstep
              have HBA := Lib.hid hbad
              clear hy hkx hky hzx hzy hstep hbad hb3
              generalize standsF (x.na, (kx : Int)) (y.na, (ky : Int)) = s at *
              have s0 : wr.drew.cell? ⟨b, off + j * 4, none⟩ = some (.int .u32 x.na) ∧ wr.drew.cell? ⟨b, off + j * 4 + 1, none⟩ = some (.int .i64 kx) ∧ wr.drew.cell? ⟨b, off + k * 4, none⟩ = some (.int .u32 y.na) ∧ wr.drew.cell? ⟨b, off + k * 4 + 1, none⟩ = some (.int .i64 ky) := ⟨p0, p1, r0, r1⟩
              have s1 : wr.cell? ⟨b, off + j * 4, none⟩ = some (.int .u32 x.na) ∧ wr.cell? ⟨b, off + j * 4 + 1, none⟩ = some (.int .i64 kx) ∧ wr.cell? ⟨b, off + k * 4, none⟩ = some (.int .u32 y.na) ∧ wr.cell? ⟨b, off + k * 4 + 1, none⟩ = some (.int .i64 ky) := ⟨p0, p1, r0, r1⟩
              have HS4 := Lib.hid hap
              by_cases h4 : s = 4
              case' pos =>
                have hs : (((s : Nat) : Int) != 4) = false := by subst h4; rfl
                have HAP := Lib.hid (show apB y x = true by rw [HS4.out]; exact decide_eq_true h4)
              case' neg =>
                have hs : (((s : Nat) : Int) != 4) = true := by rw [bne_iff_ne]; omega
                have HAP := Lib.hid (show apB y x = false by rw [HS4.out]; exact decide_eq_false h4)
              all_goals
                clear h4 hap
                go_wp2_with fail
                go_region_held3 (fun w' => w'.cell? ⟨b, off + j * 4, none⟩ = some (.int .u32 x.na) ∧ w'.cell? ⟨b, off + j * 4 + 1, none⟩ = some (.int .i64 kx) ∧ w'.cell? ⟨b, off + k * 4, none⟩ = some (.int .u32 y.na) ∧ w'.cell? ⟨b, off + k * 4 + 1, none⟩ = some (.int .i64 ky))
                  (first | exact s0 | exact s1 | exact ⟨(hb4.cell (cell_lt p0)).trans p0, (hb4.cell (cell_lt p1)).trans p1, (hb4.cell (cell_lt r0)).trans r0, (hb4.cell (cell_lt r1)).trans r1⟩)
                  ((go_at_call 48; refine (HS.out _).mono ?_; rintro e w4 ⟨rfl, hb4⟩))
                go_wp2_with fail
              · go_ret
                rw [HBA.out HAP.out]
                exact ⟨rfl, bnext (below_drewN HB3.out 1) hb4⟩
              · go_roundw
                case rel => exact ⟨k + 1, by omega, by go_num, bnext (below_drewN HB3.out 1) hb4, HSP.out HAP.out⟩
                case measure => simp [intOf]; omega
            · obtain rfl : k = j := by omega
              go_wp2_with fail
              go_roundw
              case rel =>
                refine ⟨k + 1, by omega, by go_num, HB3.out, fun i hi => ?_⟩
                by_cases h : i < k
                · exact HO.out i h
                · obtain rfl : i = k := by omega
                  rw [HIJ.out, HOF.out, HNO.out]; rfl
              case measure => simp [intOf]; omega
      · obtain rfl : j = n := by omega
        have HNE2 := Lib.hid (show newE l = 0 by rw [HNE.out, okL_yes (fun i hi => HO.out i (by rw [← HL.out.len]; exact hi))]; rfl)
        go_wp2_with fail
        go_ret
        rw [HNE2.out]
        exact ⟨rfl, hb⟩
end Go.Proofs.YtfgbliglgdkgpaaDoor
