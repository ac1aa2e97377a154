/- PulseHolds: the walk. -/
import Derived.Test.YtlgkjboamfgbeaaDoorPulE
import Derived.Deep.CutRange
namespace Go.Proofs.YtlgkjboamfgbeaaDoor
set_option linter.unusedVariables false
set_option linter.unusedSimpArgs false
open Go.RowKit
set_option maxRecDepth 100000

theorem zblk {wr w5 : World} (b5 : Below (wr.alloc (.cells #[.int .i64 0, .int .i64 0, .bool false] 28)).drew.heap.size (wr.alloc (.cells #[.int .i64 0, .int .i64 0, .bool false] 28)).drew w5) : Blk w5 wr.heap.size 28 #[.int .i64 0, .int .i64 0, .bool false] :=
  Blk.below (w := (wr.alloc (.cells #[.int .i64 0, .int .i64 0, .bool false] 28)).drew) (Blk.new wr 28 #[.int .i64 0, .int .i64 0, .bool false]) b5 (by show _ < (wr.alloc _).heap.size; simp)

set_option maxHeartbeats 40000000 in
theorem pulseholds_yes_walk (p j t h g q s cp : Int) (lc ld : Nat) (Ac Ad : Option Addr) (kc kd : Nat) (bs : List Bool) (zs : List Int) (hbs : bs.length = lc) (hzs : zs.length = ld) (A : Option Addr) (n k : Nat) (l : List (Nat × Int)) (hn : l.length = n) (w : World) (hr : Rd w w.heap.size A (plC l)) (hnk : n ≤ k) (hk : k ≤ 9223372036854775807) (hl : ∀ x ∈ l, x.1 < 4294967296) (hw : CapsAt w) (hrc : Rd w w.heap.size Ac (bs.map Value.bool)) (hrd : Rd w w.heap.size Ad (zs.map (Value.int .i64))) (hck : lc ≤ kc) (hck2 : kc ≤ 9223372036854775807) (hdk : ld ≤ kd) (hdk2 : kd ≤ 9223372036854775807) (h20 : n ≤ 20) (hok : okC p j t h g q s cp l = true) (g0 : lc ≤ 120) (g1 : ld ≤ 120) (g2 : p ≤ 40) (g3 : j ≤ 40) (g4 : q ≤ 40) (g5 : s ≤ 40) :
    Calls Tryd.prog 6 #[.agg #[.int .i64 p, .int .i64 j, .int .i64 t, .int .i64 h, .int .i64 g, .int .i64 q, .int .i64 s, .int .i64 cp, .slice A n k], .slice Ac lc kc, .slice Ad ld kd] w fun e w' => e = .returned (.bool true) ∧ Below w.heap.size w w' := by
  have HBG := Lib.hid (fun nw dr W (hb : Below w.heap.size w W) => begin_any p j t h g q s cp A n k w.heap.size l hn nw dr W (hr.below hb) hb.size hnk hk hl (hw.below hb))
  have HCH := Lib.hid (fun du un nw dr wt W (hb : Below w.heap.size w W) => pchange_any p j t h g q s cp A n k w.heap.size l hn du un nw dr wt W (hr.below hb) hb.size hnk hk hl (hw.below hb))
  have HTK := Lib.hid (fun du un nw dr wt W (hb : Below w.heap.size w W) => ptick_any p j t h g q s cp A n k w.heap.size l hn du un nw dr wt W (hr.below hb) hb.size hnk hk hl (hw.below hb))
  have HAS := Lib.hid (fun du un nw wt W (hb : Below w.heap.size w W) => asked_any p j t h g q s cp A n k w.heap.size l hn du un nw wt W (hr.below hb) hb.size hnk hk hl)
  have HRG := Lib.hid (fun W (hb : Below w.heap.size w W) => right8_any p j t h g q s cp A n k w.heap.size l hn W (hr.below hb) hb.size hnk hk hl)
  have HWK := Lib.hid (fun W (hb : Below w.heap.size w W) => works15_any W (hw.below hb))
  have hbd := okC_bounds (p := p) (j := j) (t := t) (h := h) (g := g) (q := q) (s := s) (cp := cp) (l := l)
  have hC0 := Blk.new w 24 #[.int .i64 p, .int .i64 j, .int .i64 t, .int .i64 h, .int .i64 g, .int .i64 q, .int .i64 s, .int .i64 cp, .slice A n k]
  have hB0 : Below w.heap.size w (w.alloc (.cells #[.int .i64 p, .int .i64 j, .int .i64 t, .int .i64 h, .int .i64 g, .int .i64 q, .int .i64 s, .int .i64 cp, .slice A n k] 24)) := balloc (Below.refl _ _) _
  have HRC := Lib.hid (fun W (hb : Below w.heap.size w W) => hrc.below hb)
  have HRD := Lib.hid (fun W (hb : Below w.heap.size w W) => hrd.below hb)
  have HBS := Lib.hid hbs
  have HZS := Lib.hid hzs
  clear hr hl hw HAS hrc hrd hbs hzs
  have hb2 := hbd hok
  rw [hok] at HRG HBG HCH HTK
  clear hbd hok
  have e0 : decide ((120 : Int) < lc) = false := decide_eq_false (by omega)
  have e1 : decide ((120 : Int) < ld) = false := decide_eq_false (by omega)
  have e2 : decide (40 < p) = false := decide_eq_false (by omega)
  have e3 : decide (40 < j) = false := decide_eq_false (by omega)
  have e4 : decide (40 < q) = false := decide_eq_false (by omega)
  have e5 : decide (40 < s) = false := decide_eq_false (by omega)
  have HBG' := Lib.hid (fun W hb => HBG.out 0 0 W hb)
  rw [show askE true true (okN 0) = 0 from rfl, show begR 0 (0 + (p + max 0 (min 0 j))) 0 = .tuple #[.agg #[.int .i64 (0 + (p + max 0 (min 0 j))), .int .i64 0, .bool false], .int .i64 0] from rfl, show 0 + (p + max 0 (min 0 j)) = p by omega] at HBG'
  clear HBG
  go_enter Tryd.func6, Tryd.ntmps6
  go_wp2_with fail
  refine (few15_any p j t h g q s cp A n k _).mono ?_
  rintro e w1 ⟨rfl, b1⟩
  rw [decide_eq_true h20]
  have hC := hC0.below b1 hC0.lt
  have hB := bnext hB0 b1
  clear b1 hC0 hB0
  have k0 := (hC).cell 0
  have k1 := (hC).cell 1
  have k2 := (hC).cell 2
  have k3 := (hC).cell 3
  have k4 := (hC).cell 4
  have k5 := (hC).cell 5
  have k6 := (hC).cell 6
  have k7 := (hC).cell 7
  have k8 := (hC).cell 8
  simp only [List.getElem?_toArray, List.getElem?_cons_zero, List.getElem?_cons_succ] at k0 k1 k2 k3 k4 k5 k6 k7 k8
  have HX2 := Lib.hid hB
  go_wp2_with fail
  refine (HRG.out _ HX2.out).mono ?_
  rintro e w2 ⟨rfl, b2⟩
  replace hC := hC.below b2 hC.lt
  replace hB := bnext hB b2
  clear b2 HX2
  clear k0 k1 k2 k3 k4 k5 k6 k7 k8
  have k0 := (hC).cell 0
  have k1 := (hC).cell 1
  have k2 := (hC).cell 2
  have k3 := (hC).cell 3
  have k4 := (hC).cell 4
  have k5 := (hC).cell 5
  have k6 := (hC).cell 6
  have k7 := (hC).cell 7
  have k8 := (hC).cell 8
  simp only [List.getElem?_toArray, List.getElem?_cons_zero, List.getElem?_cons_succ] at k0 k1 k2 k3 k4 k5 k6 k7 k8
  have HX3 := Lib.hid hB
  go_wp2_with fail
  refine (HBG'.out _ HX3.out).mono ?_
  rintro e w3 ⟨rfl, b3⟩
  have hlt : w.heap.size < w3.heap.size := (hC.below b3 hC.lt).lt
  replace hC := (hC.below b3 hC.lt).alloc (.cells #[.int .i64 p, .int .i64 0, .bool false] 28)
  have hP := Blk.new w3 28 #[.int .i64 p, .int .i64 0, .bool false]
  replace hB := balloc (bnext hB b3) (.cells #[.int .i64 p, .int .i64 0, .bool false] 28)
  clear b3 HX3 HBG' HRG
  clear k0 k1 k2 k3 k4 k5 k6 k7 k8
  go_wp2_with (first | (go_at_call 12; refine (num_any _ _).mono ?_; rintro e w' ⟨rfl, rfl⟩))
  obtain ⟨w4, hw4⟩ : ∃ w4, w4 = w3.alloc (.cells #[.int .i64 p, .int .i64 0, .bool false] 28) := ⟨_, rfl⟩
  simp only [← hw4] at hC hP hB ⊢
  generalize w3.heap.size = bp at *
  clear hw4
  go_loopw [9, 10, 11, 12] (fun a b c d wr => ∃ (m : Nat) (du un al td ws : Int) (wt : Bool), m ≤ min lc ld ∧ a = .int .i64 al ∧ b = .int .i64 td ∧ c = .int .i64 ws ∧ d = .int .i64 m ∧ PInv p j q s m du un wt al td ws ∧ Blk wr w.heap.size 24 #[.int .i64 p, .int .i64 j, .int .i64 t, .int .i64 h, .int .i64 g, .int .i64 q, .int .i64 s, .int .i64 cp, .slice A n k] ∧ Blk wr bp 28 #[.int .i64 du, .int .i64 un, .bool wt] ∧ Below w.heap.size w wr) (fun _ _ _ d _ => min lc ld - (intOf d).toNat)
  case atStart => exact ⟨0, p, 0, 0, -1000, -1, false, by omega, rfl, rfl, rfl, rfl, PInv.first p j q s (by omega) (by omega) (by omega) (by omega), hC, hP, hB⟩
  case round =>
    obtain ⟨m, du, un, al, td, ws, wt, hm, rfl, rfl, rfl, rfl, hinv, hCr, hPr, hBr⟩ := hrel
    clear hC hP hB
    by_cases hlt2 : m < min lc ld
    case neg =>
      obtain rfl : m = min lc ld := by omega
      have HXW := Lib.hid hBr
      clear hBr hCr hPr hinv
      go_wp2_with fail
      all_goals
        refine (HWK.out _ HXW.out).mono ?_
        rintro e w5 ⟨rfl, b5⟩
        go_wp2_with fail
        go_ret
        exact ⟨rfl, bnext HXW.out b5⟩
    case pos =>
      have hm1 : m < lc := by omega
      have hm2 : m < ld := by omega
      obtain ⟨ba, oa, rfl, hba, hca⟩ := (HRC.out _ hBr).at (k := m) (by have := HBS.out; simp; omega)
      obtain ⟨bd, od, rfl, hbd, hcd⟩ := (HRD.out _ hBr).at (k := m) (by have := HZS.out; simp; omega)
      simp only [List.getElem_map] at hca hcd
      obtain ⟨chg, hchg⟩ : ∃ c, c = bs[m]'(by have := HBS.out; omega) := ⟨_, rfl⟩
      obtain ⟨dr, hdr⟩ : ∃ c, c = zs[m]'(by have := HZS.out; omega) := ⟨_, rfl⟩
      rw [← hchg] at hca
      rw [← hdr] at hcd
      clear hchg hdr
      have hf := hinv.fine (by omega) g2 g3 g4 g5
      have HT := HTK.out du un m dr wt
      rw [hf.1, hf.2, show askE true true true = 0 from rfl] at HT
      obtain ⟨d1, u1, w1', k1, al1, td1, ws1, ht1, hmid, hcs⟩ := tick_mid p j q s m du un dr wt al td ws (by omega) (by omega) (by omega) (by omega) hinv
      rw [ht1, show pres 0 ((d1, u1, w1'), k1) = ((d1, u1, w1'), k1) from rfl] at HT
      unfold GivesP at HT
      simp only at HT
      have HT' := Lib.hid HT
      have hinv' := hinv
      clear HT hf ht1 hinv
      have ck0 := (hCr).cell 0
      have ck1 := (hCr).cell 1
      have ck2 := (hCr).cell 2
      have ck3 := (hCr).cell 3
      have ck4 := (hCr).cell 4
      have ck5 := (hCr).cell 5
      have ck6 := (hCr).cell 6
      have ck7 := (hCr).cell 7
      have ck8 := (hCr).cell 8
      simp only [List.getElem?_toArray, List.getElem?_cons_zero, List.getElem?_cons_succ] at ck0 ck1 ck2 ck3 ck4 ck5 ck6 ck7 ck8
      have cq0 := (hPr).cell 0
      have cq1 := (hPr).cell 1
      have cq2 := (hPr).cell 2
      simp only [List.getElem?_toArray, List.getElem?_cons_zero, List.getElem?_cons_succ] at cq0 cq1 cq2
      go_wp2_with fail
      have hkeep : ∀ W, Below wr.heap.size wr W → (W.cell? ⟨w.heap.size, 0, none⟩ = some (.int .i64 p) ∧ W.cell? ⟨w.heap.size, 1, none⟩ = some (.int .i64 j) ∧ W.cell? ⟨w.heap.size, 2, none⟩ = some (.int .i64 t) ∧ W.cell? ⟨w.heap.size, 3, none⟩ = some (.int .i64 h) ∧ W.cell? ⟨w.heap.size, 4, none⟩ = some (.int .i64 g) ∧ W.cell? ⟨w.heap.size, 5, none⟩ = some (.int .i64 q) ∧ W.cell? ⟨w.heap.size, 6, none⟩ = some (.int .i64 s) ∧ W.cell? ⟨w.heap.size, 7, none⟩ = some (.int .i64 cp) ∧ W.cell? ⟨w.heap.size, 8, none⟩ = some (.slice A n k) ∧ W.cell? ⟨bp, 0, none⟩ = some (.int .i64 du) ∧ W.cell? ⟨bp, 1, none⟩ = some (.int .i64 un) ∧ W.cell? ⟨bp, 2, none⟩ = some (.bool wt) ∧ W.cell? ⟨bd, od + m, none⟩ = some (.int .i64 dr)) := fun W hW => by
        have a := hCr.below hW hCr.lt
        have b := hPr.below hW hPr.lt
        have a0 := (a).cell 0
        have a1 := (a).cell 1
        have a2 := (a).cell 2
        have a3 := (a).cell 3
        have a4 := (a).cell 4
        have a5 := (a).cell 5
        have a6 := (a).cell 6
        have a7 := (a).cell 7
        have a8 := (a).cell 8
        simp only [List.getElem?_toArray, List.getElem?_cons_zero, List.getElem?_cons_succ] at a0 a1 a2 a3 a4 a5 a6 a7 a8
        have b0 := (b).cell 0
        have b1 := (b).cell 1
        have b2 := (b).cell 2
        simp only [List.getElem?_toArray, List.getElem?_cons_zero, List.getElem?_cons_succ] at b0 b1 b2
        exact ⟨a0, a1, a2, a3, a4, a5, a6, a7, a8, b0, b1, b2, (hW.cell (p := ⟨bd, od + m, none⟩) (cell_lt hcd)).trans hcd⟩
      have HKP := Lib.hid hkeep
      clear hkeep
      have hBd : Below w.heap.size w wr.drew := below_drewN hBr 1
      have hBa : Below w.heap.size w (wr.alloc (.cells #[.int .i64 0, .int .i64 0, .bool false] 28)).drew := below_drewN (balloc hBr _) 1
      have hSd : Below wr.heap.size wr wr.drew := below_drewN (Below.refl _ _) 1
      have hSa : Below wr.heap.size wr (wr.alloc (.cells #[.int .i64 0, .int .i64 0, .bool false] 28)).drew := below_drewN (balloc (Below.refl _ _) _) 1
      go_upto_region 11 with fail
      go_cut [14, 15, 16] from 67 to 185 (fun a b c wx => ∃ bo : Nat, a = .pointer (some ⟨bo, 0, none⟩) ∧ b = .int .i64 k1 ∧ c = .int .i64 0 ∧ Blk wx bo 28 #[(.int .i64 d1), (.int .i64 u1), (.bool w1')] ∧ wr.heap.size ≤ bo ∧ Below wr.heap.size wr wx)
      case first =>
        go_region_held3 (fun w' => w'.cell? ⟨w.heap.size, 0, none⟩ = some (.int .i64 p) ∧ w'.cell? ⟨w.heap.size, 1, none⟩ = some (.int .i64 j) ∧ w'.cell? ⟨w.heap.size, 2, none⟩ = some (.int .i64 t) ∧ w'.cell? ⟨w.heap.size, 3, none⟩ = some (.int .i64 h) ∧ w'.cell? ⟨w.heap.size, 4, none⟩ = some (.int .i64 g) ∧ w'.cell? ⟨w.heap.size, 5, none⟩ = some (.int .i64 q) ∧ w'.cell? ⟨w.heap.size, 6, none⟩ = some (.int .i64 s) ∧ w'.cell? ⟨w.heap.size, 7, none⟩ = some (.int .i64 cp) ∧ w'.cell? ⟨w.heap.size, 8, none⟩ = some (.slice A n k) ∧ w'.cell? ⟨bp, 0, none⟩ = some (.int .i64 du) ∧ w'.cell? ⟨bp, 1, none⟩ = some (.int .i64 un) ∧ w'.cell? ⟨bp, 2, none⟩ = some (.bool wt) ∧ w'.cell? ⟨bd, od + m, none⟩ = some (.int .i64 dr)) (first | exact HKP.out _ hSd | exact HKP.out _ hSa | exact HKP.out _ (bnext hSd (by assumption)) | exact HKP.out _ (balloc (bnext hSd (by assumption)) _) | exact HKP.out _ (bnext hSa (by assumption)) | exact HKP.out _ ((((bnext hSa (by assumption)).setCell (p := ⟨wr.heap.size, 0, none⟩) (Nat.le_refl _) _).setCell (p := ⟨wr.heap.size, 1, none⟩) (Nat.le_refl _) _).setCell (p := ⟨wr.heap.size, 2, none⟩) (Nat.le_refl _) _))
          (first
          | (go_at_call 15; (with_reducible refine (HT'.out wr.drew hBd).mono ?_); rintro e w5 ⟨rfl, b5⟩)
          | (go_at_call 15; (with_reducible refine (HT'.out (wr.alloc (.cells #[.int .i64 0, .int .i64 0, .bool false] 28)).drew hBa).mono ?_); rintro e w5 ⟨rfl, b5⟩; have z5 := zblk b5; have y0 := z5.cell 0; have y1 := z5.cell 1; have y2 := z5.cell 2; have yf0 := z5.frozen 0; have yf1 := z5.frozen 1; have yf2 := z5.frozen 2; simp only [List.getElem?_toArray, List.getElem?_cons_zero, List.getElem?_cons_succ] at y0 y1 y2))
        all_goals
          go_wp2_with fail
          go_meet
          first
          | exact ⟨w5.heap.size, rfl, rfl, rfl, Blk.new w5 28 #[(.int .i64 d1), (.int .i64 u1), (.bool w1')], Nat.le_trans hSd.size b5.size, balloc (bnext hSd b5) _⟩
          | exact ⟨wr.heap.size, rfl, rfl, rfl, pset z5, Nat.le_refl _, (((bnext hSa b5).setCell (p := ⟨wr.heap.size, 0, none⟩) (Nat.le_refl _) _).setCell (p := ⟨wr.heap.size, 1, none⟩) (Nat.le_refl _) _).setCell (p := ⟨wr.heap.size, 2, none⟩) (Nat.le_refl _) _⟩
      case rest =>
        obtain ⟨bo, rfl, rfl, rfl, hO, hbo, hW⟩ := hcut
        have hC := hCr.below hW hCr.lt
        have hP := hPr.below hW hPr.lt
        have hB := bnext hBr hW
        have hca' := (hW.cell (p := ⟨ba, oa + m, none⟩) (cell_lt hca)).trans hca
        have hcd' := (hW.cell (p := ⟨bd, od + m, none⟩) (cell_lt hcd)).trans hcd
        have hbpo : ¬ bp = bo := by have := hPr.lt; omega
        have hbco : ¬ w.heap.size = bo := by have := hCr.lt; omega
        have hwbo : w.heap.size ≤ bo := by have := hCr.lt; omega
        clear hCr hPr hBr hW hca hcd hSd hSa hBd hBa HKP HT' hbo
        clear ck0 ck1 ck2 ck3 ck4 ck5 ck6 ck7 ck8 cq0 cq1 cq2
        have hal : 0 ≤ al1 ∧ al1 ≤ m := hmid.2.1
        have htd : -1000 ≤ td1 ∧ td1 ≤ m := hmid.2.2.2.1
        have hws : -1 ≤ ws1 ∧ ws1 ≤ m := hmid.2.2.2.2.2.1
        have htd0 : -1000 ≤ td ∧ td ≤ m := hinv'.2.2.2.1
        clear hinv'
        obtain ⟨wt0, hwt0⟩ : ∃ x, x = wc := ⟨_, rfl⟩
        rw [← hwt0] at hO hC hP hB hca' hcd' ⊢
        clear hwt0
        have HCS := Lib.hid hcs
        clear hcs
        -- the tests behind the tick, one by one
        go_upto_region 12 with fail
        go_cut [99] from 67 to 185 (fun c wx => c = .bool false ∧ wx = wt0)
        case first =>
          have co0 := (hO).cell 0
          have co1 := (hO).cell 1
          have co2 := (hO).cell 2
          simp only [List.getElem?_toArray, List.getElem?_cons_zero, List.getElem?_cons_succ] at co0 co1 co2
          rcases HCS.out with ⟨rfl, rfl, rfl, rfl⟩ | ⟨rfl, hw1, rfl, rfl, rfl⟩ | ⟨rfl, hw1, hqt, rfl, rfl, rfl⟩
          all_goals
            go_wp2_with (first | (go_at_call 12; refine (num_any _ _).mono ?_; rintro e w' ⟨rfl, rfl⟩))
            go_meet
            exact ⟨rfl, rfl⟩
        case rest =>
          obtain ⟨rfl, rfl⟩ := hcut
          go_upto_if 101 with fail
          go_cut [9, 11] from 67 to 185 (fun a c wx => a = .int .i64 al1 ∧ c = .int .i64 (if k1 = 2 then -1 else ws) ∧ wx = wc)
          case first =>
            rcases HCS.out with ⟨rfl, rfl, rfl, rfl⟩ | ⟨rfl, hw1, rfl, rfl, rfl⟩ | ⟨rfl, hw1, hqt, rfl, rfl, rfl⟩
            all_goals
              go_wp2_with fail
              go_meet
              exact ⟨rfl, rfl, rfl⟩
          case rest =>
            obtain ⟨rfl, rfl, rfl⟩ := hcut
            go_upto_if 104 with fail
            go_cut [10, 11] from 67 to 185 (fun b c wx => b = .int .i64 td1 ∧ c = .int .i64 ws1 ∧ wx = wc)
            case first =>
              have cc0 := (hC).cell 0
              have cc1 := (hC).cell 1
              have cc2 := (hC).cell 2
              have cc3 := (hC).cell 3
              have cc4 := (hC).cell 4
              have cc5 := (hC).cell 5
              have cc6 := (hC).cell 6
              have cc7 := (hC).cell 7
              have cc8 := (hC).cell 8
              simp only [List.getElem?_toArray, List.getElem?_cons_zero, List.getElem?_cons_succ] at cc0 cc1 cc2 cc3 cc4 cc5 cc6 cc7 cc8
              rcases HCS.out with ⟨rfl, rfl, rfl, rfl⟩ | ⟨rfl, hw1, rfl, rfl, rfl⟩ | ⟨rfl, hw1, hqt, rfl, rfl, rfl⟩
              all_goals
                go_wp2_with fail
                go_meet
                exact ⟨rfl, rfl, rfl⟩
            case rest =>
              obtain ⟨rfl, rfl, rfl⟩ := hcut
              clear HCS
              go_upto_if 115 with fail
              go_cut [10, 11, 17, 18, 19] from 67 to 185 (fun b c x17 x18 x19 wx => ∃ (td2 ws2 d2 u2 : Int) (w2' : Bool), b = .int .i64 td2 ∧ c = .int .i64 ws2 ∧ PMid p j q s m d2 u2 w2' al1 td2 ws2 ∧ Blk wx w.heap.size 24 #[.int .i64 p, .int .i64 j, .int .i64 t, .int .i64 h, .int .i64 g, .int .i64 q, .int .i64 s, .int .i64 cp, .slice A n k] ∧ Blk wx bp 28 #[.int .i64 du, .int .i64 un, .bool wt] ∧ Blk wx bo 28 #[.int .i64 d2, .int .i64 u2, .bool w2'] ∧ Below w.heap.size w wx)
              case first =>
                cases chg
                case false =>
                  go_wp2_with fail
                  go_meet
                  exact ⟨td1, ws1, d1, u1, w1', rfl, rfl, hmid, hC, hP, hO, hB⟩
                case true =>
                  have hf := hmid.fine (by omega) g2 g3 g4 g5
                  have HT := HCH.out d1 u1 m dr w1'
                  rw [hf.1, hf.2, show askE true true true = 0 from rfl] at HT
                  obtain ⟨d2, u2, w2', k2, td2, ws2, ht2, hmid2, hcs2⟩ := change_mid p j q s m d1 u1 dr w1' al1 td1 ws1 (by omega) (by omega) hmid (by omega)
                  rw [ht2, show pres 0 ((d2, u2, w2'), k2) = ((d2, u2, w2'), k2) from rfl] at HT
                  unfold GivesP at HT
                  simp only at HT
                  have HT' := Lib.hid HT
                  have HCS2 := Lib.hid hcs2
                  clear HT hf ht2 hcs2
                  obtain ⟨wq, hwq⟩ : ∃ x, x = wc := ⟨_, rfl⟩
                  rw [← hwq] at hO hC hP hB hca' hcd' ⊢
                  clear hwq
                  go_upto_region 21 with fail
                  have hkeep : ∀ W, Below wq.heap.size wq W → (W.cell? ⟨w.heap.size, 0, none⟩ = some (.int .i64 p) ∧ W.cell? ⟨w.heap.size, 1, none⟩ = some (.int .i64 j) ∧ W.cell? ⟨w.heap.size, 2, none⟩ = some (.int .i64 t) ∧ W.cell? ⟨w.heap.size, 3, none⟩ = some (.int .i64 h) ∧ W.cell? ⟨w.heap.size, 4, none⟩ = some (.int .i64 g) ∧ W.cell? ⟨w.heap.size, 5, none⟩ = some (.int .i64 q) ∧ W.cell? ⟨w.heap.size, 6, none⟩ = some (.int .i64 s) ∧ W.cell? ⟨w.heap.size, 7, none⟩ = some (.int .i64 cp) ∧ W.cell? ⟨w.heap.size, 8, none⟩ = some (.slice A n k) ∧ W.cell? ⟨bo, 0, none⟩ = some (.int .i64 d1) ∧ W.cell? ⟨bo, 1, none⟩ = some (.int .i64 u1) ∧ W.cell? ⟨bo, 2, none⟩ = some ((.bool w1')) ∧ W.cell? ⟨bd, od + m, none⟩ = some (.int .i64 dr)) := fun W hW => by
                    have a := hC.below hW hC.lt
                    have b := hO.below hW hO.lt
                    have a0 := (a).cell 0
                    have a1 := (a).cell 1
                    have a2 := (a).cell 2
                    have a3 := (a).cell 3
                    have a4 := (a).cell 4
                    have a5 := (a).cell 5
                    have a6 := (a).cell 6
                    have a7 := (a).cell 7
                    have a8 := (a).cell 8
                    simp only [List.getElem?_toArray, List.getElem?_cons_zero, List.getElem?_cons_succ] at a0 a1 a2 a3 a4 a5 a6 a7 a8
                    have b0 := (b).cell 0
                    have b1 := (b).cell 1
                    have b2 := (b).cell 2
                    simp only [List.getElem?_toArray, List.getElem?_cons_zero, List.getElem?_cons_succ] at b0 b1 b2
                    exact ⟨a0, a1, a2, a3, a4, a5, a6, a7, a8, b0, b1, b2, (hW.cell (p := ⟨bd, od + m, none⟩) (cell_lt hcd')).trans hcd'⟩
                  have HKP := Lib.hid hkeep
                  clear hkeep
                  have hBd : Below w.heap.size w wq.drew := below_drewN hB 1
                  have hBa : Below w.heap.size w (wq.alloc (.cells #[.int .i64 0, .int .i64 0, .bool false] 28)).drew := below_drewN (balloc hB _) 1
                  have hSd : Below wq.heap.size wq wq.drew := below_drewN (Below.refl _ _) 1
                  have hSa : Below wq.heap.size wq (wq.alloc (.cells #[.int .i64 0, .int .i64 0, .bool false] 28)).drew := below_drewN (balloc (Below.refl _ _) _) 1
                  go_upto_region 21 with fail
                  go_cut [17, 18, 19] from 67 to 185 (fun a b c wx => ∃ bo : Nat, a = .pointer (some ⟨bo, 0, none⟩) ∧ b = .int .i64 k2 ∧ c = .int .i64 0 ∧ Blk wx bo 28 #[(.int .i64 d2), (.int .i64 u2), (.bool w2')] ∧ wq.heap.size ≤ bo ∧ Below wq.heap.size wq wx)
                  case first =>
                    go_region_held3 (fun w' => w'.cell? ⟨w.heap.size, 0, none⟩ = some (.int .i64 p) ∧ w'.cell? ⟨w.heap.size, 1, none⟩ = some (.int .i64 j) ∧ w'.cell? ⟨w.heap.size, 2, none⟩ = some (.int .i64 t) ∧ w'.cell? ⟨w.heap.size, 3, none⟩ = some (.int .i64 h) ∧ w'.cell? ⟨w.heap.size, 4, none⟩ = some (.int .i64 g) ∧ w'.cell? ⟨w.heap.size, 5, none⟩ = some (.int .i64 q) ∧ w'.cell? ⟨w.heap.size, 6, none⟩ = some (.int .i64 s) ∧ w'.cell? ⟨w.heap.size, 7, none⟩ = some (.int .i64 cp) ∧ w'.cell? ⟨w.heap.size, 8, none⟩ = some (.slice A n k) ∧ w'.cell? ⟨bo, 0, none⟩ = some (.int .i64 d1) ∧ w'.cell? ⟨bo, 1, none⟩ = some (.int .i64 u1) ∧ w'.cell? ⟨bo, 2, none⟩ = some ((.bool w1')) ∧ w'.cell? ⟨bd, od + m, none⟩ = some (.int .i64 dr)) (first | exact HKP.out _ hSd | exact HKP.out _ hSa | exact HKP.out _ (bnext hSd (by assumption)) | exact HKP.out _ (balloc (bnext hSd (by assumption)) _) | exact HKP.out _ (bnext hSa (by assumption)) | exact HKP.out _ ((((bnext hSa (by assumption)).setCell (p := ⟨wq.heap.size, 0, none⟩) (Nat.le_refl _) _).setCell (p := ⟨wq.heap.size, 1, none⟩) (Nat.le_refl _) _).setCell (p := ⟨wq.heap.size, 2, none⟩) (Nat.le_refl _) _))
                      (first
                      | (go_at_call 14; (with_reducible refine (HT'.out wq.drew hBd).mono ?_); rintro e w5 ⟨rfl, b5⟩)
                      | (go_at_call 14; (with_reducible refine (HT'.out (wq.alloc (.cells #[.int .i64 0, .int .i64 0, .bool false] 28)).drew hBa).mono ?_); rintro e w5 ⟨rfl, b5⟩; have z5 := zblk b5; have y0 := z5.cell 0; have y1 := z5.cell 1; have y2 := z5.cell 2; have yf0 := z5.frozen 0; have yf1 := z5.frozen 1; have yf2 := z5.frozen 2; simp only [List.getElem?_toArray, List.getElem?_cons_zero, List.getElem?_cons_succ] at y0 y1 y2))
                    all_goals
                      go_wp2_with fail
                      go_meet
                      first
                      | exact ⟨w5.heap.size, rfl, rfl, rfl, Blk.new w5 28 #[(.int .i64 d2), (.int .i64 u2), (.bool w2')], Nat.le_trans hSd.size b5.size, balloc (bnext hSd b5) _⟩
                      | exact ⟨wq.heap.size, rfl, rfl, rfl, pset z5, Nat.le_refl _, (((bnext hSa b5).setCell (p := ⟨wq.heap.size, 0, none⟩) (Nat.le_refl _) _).setCell (p := ⟨wq.heap.size, 1, none⟩) (Nat.le_refl _) _).setCell (p := ⟨wq.heap.size, 2, none⟩) (Nat.le_refl _) _⟩
                  case rest =>
                    obtain ⟨bq, rfl, rfl, rfl, hQ, hbq, hW⟩ := hcut
                    have hC1 := hC.below hW hC.lt
                    have hP1 := hP.below hW hP.lt
                    have hO1 := hO.below hW hO.lt
                    have hboq : ¬ bo = bq := by have := hO.lt; omega
                    have hbpq : ¬ bp = bq := by have := hP.lt; omega
                    have hB1 := bnext hB hW
                    clear hSd hSa hBd hBa HKP HT' hbq hW hC hP hO hB
                    have hws2 : -1 ≤ ws1 ∧ ws1 ≤ m := hmid.2.2.2.2.2.1
                    have HMID2 := Lib.hid hmid2
                    clear hmid hmid2 hca' hcd'
                    rcases HCS2.out with ⟨rfl, hq2, rfl, rfl⟩ | ⟨rfl, hq2, rfl, rfl⟩ | ⟨rfl, hq2, rfl, rfl⟩
                    all_goals
                      clear HCS2
                      have cc0 := (hC1).cell 0
                      have cc1 := (hC1).cell 1
                      have cc2 := (hC1).cell 2
                      have cc3 := (hC1).cell 3
                      have cc4 := (hC1).cell 4
                      have cc5 := (hC1).cell 5
                      have cc6 := (hC1).cell 6
                      have cc7 := (hC1).cell 7
                      have cc8 := (hC1).cell 8
                      simp only [List.getElem?_toArray, List.getElem?_cons_zero, List.getElem?_cons_succ] at cc0 cc1 cc2 cc3 cc4 cc5 cc6 cc7 cc8
                      clear cc0 cc1 cc2 cc3 cc4 cc6 cc7 cc8
                      go_upto_region 28 with (first | (go_at_call 12; refine (num_any _ _).mono ?_; rintro e w' ⟨rfl, rfl⟩))
                      clear cc5
                      have cq0 := (hQ).cell 0
                      have cq1 := (hQ).cell 1
                      have cq2 := (hQ).cell 2
                      simp only [List.getElem?_toArray, List.getElem?_cons_zero, List.getElem?_cons_succ] at cq0 cq1 cq2
                      have co0 := (hO1).cell 0
                      have co1 := (hO1).cell 1
                      have co2 := (hO1).cell 2
                      simp only [List.getElem?_toArray, List.getElem?_cons_zero, List.getElem?_cons_succ] at co0 co1 co2
                      have cg0 := hO1.frozen 0
                      have cg1 := hO1.frozen 1
                      have cg2 := hO1.frozen 2
                      go_wp2_with fail
                      go_meet
                      exact ⟨_, _, d2, u2, w2', rfl, rfl, HMID2.out, pfar hC1 (by omega), pfar hP1 (by omega), pset hO1, pbel hB1 (by omega)⟩
              case rest =>
                obtain ⟨td2, ws2, d2, u2, w2', rfl, rfl, hmid2, hC2, hP2, hO2, hB2⟩ := hcut
                clear hmid hC hP hO hB hca' hcd'
                have hN := hmid2.next
                have hNN := hN
                rw [show (m : Int) + 1 = ((m + 1 : Nat) : Int) by omega] at hNN
                obtain ⟨ea, eb, ec⟩ := hmid2.ends
                have hb1 : 0 ≤ al1 ∧ al1 ≤ m := hmid2.2.1
                have hb3 : -1 ≤ ws2 ∧ ws2 ≤ m := hmid2.2.2.2.2.2.1
                have EB := Lib.hid eb
                have EC := Lib.hid ec
                clear hN hmid2 eb ec
                have co0 := (hO2).cell 0
                have co1 := (hO2).cell 1
                have co2 := (hO2).cell 2
                simp only [List.getElem?_toArray, List.getElem?_cons_zero, List.getElem?_cons_succ] at co0 co1 co2
                have cb0 := (hP2).cell 0
                have cb1 := (hP2).cell 1
                have cb2 := (hP2).cell 2
                simp only [List.getElem?_toArray, List.getElem?_cons_zero, List.getElem?_cons_succ] at cb0 cb1 cb2
                have cf0 := hP2.frozen 0
                have cf1 := hP2.frozen 1
                have cf2 := hP2.frozen 2
                go_upto_region 30 with fail
                clear co0 co1 co2 cb0 cb1 cb2
                clear cf0 cf1 cf2
                have hC3 := pfar (b := bp) (a := .int .i64 d2) (c := .int .i64 u2) (d := .bool w2') hC2 (by omega)
                have hP3 := pset (a := .int .i64 d2) (c := .int .i64 u2) (d := .bool w2') hP2
                have hB3 := pbel (b := bp) (a := .int .i64 d2) (c := .int .i64 u2) (d := .bool w2') hB2 (by omega)
                generalize (((wc.setCell ⟨bp, 0, none⟩ (.int .i64 d2)).setCell ⟨bp, 1, none⟩ (.int .i64 u2)).setCell ⟨bp, 2, none⟩ (.bool w2')) = X2 at *
                have cx0 := (hC3).cell 0
                have cx1 := (hC3).cell 1
                have cx2 := (hC3).cell 2
                have cx3 := (hC3).cell 3
                have cx4 := (hC3).cell 4
                have cx5 := (hC3).cell 5
                have cx6 := (hC3).cell 6
                have cx7 := (hC3).cell 7
                have cx8 := (hC3).cell 8
                simp only [List.getElem?_toArray, List.getElem?_cons_zero, List.getElem?_cons_succ] at cx0 cx1 cx2 cx3 cx4 cx5 cx6 cx7 cx8
                have cy0 := (hP3).cell 0
                have cy1 := (hP3).cell 1
                have cy2 := (hP3).cell 2
                simp only [List.getElem?_toArray, List.getElem?_cons_zero, List.getElem?_cons_succ] at cy0 cy1 cy2
                clear cx2 cx3 cx4 cx7 cx8 cy0 cy1
                by_cases h0 : 0 ≤ ws2
                · have h0' : decide (0 ≤ ws2) = true := decide_eq_true h0
                  have eb' := EB.out h0'
                  have ec' : w2' = true := EC.out.trans h0'
                  subst ec'; clear EC EB
                  go_wp2_with fail
                  go_roundw
                  case rel => exact ⟨m + 1, d2, u2, _, _, _, _, by omega, rfl, rfl, rfl, by go_num, hNN, hC3, hP3, hB3⟩
                  case measure => simp [intOf]; omega
                · have h0' : decide (0 ≤ ws2) = false := decide_eq_false h0
                  have ec' : w2' = false := EC.out.trans h0'
                  subst ec'; clear EC EB
                  go_wp2_with fail
                  go_roundw
                  case rel => exact ⟨m + 1, d2, u2, _, _, _, _, by omega, rfl, rfl, rfl, by go_num, hNN, hC3, hP3, hB3⟩
                  case measure => simp [intOf]; omega
end Go.Proofs.YtlgkjboamfgbeaaDoor
