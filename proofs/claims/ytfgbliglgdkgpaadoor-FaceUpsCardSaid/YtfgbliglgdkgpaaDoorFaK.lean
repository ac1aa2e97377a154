/- FaceUps: the walk. -/
import Derived.Test.YtfgbliglgdkgpaaDoorFaI
namespace Go.Proofs.YtfgbliglgdkgpaaDoor
set_option linter.unusedVariables false
set_option linter.unusedSimpArgs false
open Go.RowKit Go.Shelf
attribute [local go_sem] Oper.semAt_some
set_option maxRecDepth 100000
/-- between two rounds: what came is counted in a box -/
def RV (W1 : World) (Bn : Nat) (pre : List Nat) (W : World) : Prop := Boxed W Bn 3 (.int .i64 pre.length) ∧ Below Bn W1 W
theorem RV.stable {W1 : World} {Bn : Nat} {B : Nat} (h1 : Bn < B) : Stable B (RV W1 Bn) := fun s W W' hs hb => ⟨boxed_below hs.1 hb h1, hs.2.trans (hb.mono (by omega))⟩

set_option maxHeartbeats 4000000 in
theorem faceups_no (l : List Fc) (n c : Nat) (A : Option Addr) (many : Int) (x : Ac9) (w : World) (hL : Ls w w.heap.size A n c l) (hR : RelsAt w) (hno : 16 < n ∨ newE l ≠ 0) :
    Calls Tryd.prog 5 #[.slice A n c, .int .i64 many, .agg (ac9A x)] w fun e w' => e = .returned (.bool true) ∧ Below w.heap.size w w' := by
  obtain ⟨wh, xi, xu⟩ := x
  simp only [ac9A]
  have HL := Lib.hid hL
  have hcap := hL.cap
  have HWK := Lib.hid (fun W (hb : Below w.heap.size w W) => works9_any W (hR.below hb))
  have HR := Lib.hid hR
  have B3 : Below w.heap.size w (((w.alloc (.cells #[.slice A n c] 22)).alloc (.cells #[.int .i64 wh, .int .i64 xi, .bool xu] 46)).alloc (.cells #[.bool false] 4)) := balloc (balloc (balloc (Below.refl _ _) _) _) _
  have z2 := Boxed.new ((w.alloc (.cells #[.slice A n c] 22)).alloc (.cells #[.int .i64 wh, .int .i64 xi, .bool xu] 46)) 4 (.bool false)
  rw [World.size_alloc, World.size_alloc] at z2
  have HB3 := Lib.hid B3
  have Z := Lib.hid z2
  clear hL hR B3 z2
  by_cases h16 : 16 < n
  · have g1 : decide ((16 : Int) < n) = true := decide_eq_true (by omega)
    have g1' : decide (16 < n) = true := decide_eq_true (by omega)
    go_enter Tryd.func5, Tryd.ntmps5
    go_wp2_with fail
    refine (HWK.out _ HB3.out).mono ?_
    rintro e w1 ⟨rfl, b1⟩
    have hB := boxed_below Z.out b1 Z.out.lt
    have c1 := hB.cell
    have f1 := hB.frozen
    have d1 := (hB.set (.bool true)).cell
    have b2 := bnext HB3.out b1
    go_wp2_with fail
    refine bodyPost_ret (v := .bool true) (by simp [results, Tryd.results5, go_sem, d1]) rfl ⟨rfl, ?_⟩
    exact b2.setCell (p := ⟨w.heap.size + 1 + 1, 0, none⟩) (by show w.heap.size ≤ w.heap.size + 1 + 1; omega) _
  · have hno' : newE l ≠ 0 := hno.resolve_left h16
    have g1 : decide ((16 : Int) < n) = false := decide_eq_false (by omega)
    have g1' : decide (16 < n) = false := decide_eq_false (by omega)
    have z0 := ((Boxed.new w 22 (.slice A n c)).alloc (.cells #[.int .i64 wh, .int .i64 xi, .bool xu] 46)).alloc (.cells #[.bool false] 4)
    have HNW := Lib.hid (new_any l n c w.heap.size A _ (HL.out.below HB3.out) HB3.out.size (HR.out.below HB3.out) (by omega))
    have Z0 := Lib.hid z0
    clear hno z0
    go_enter Tryd.func5, Tryd.ntmps5
    go_wp2_with fail
    refine HNW.out.mono ?_
    rintro e w2 ⟨(⟨h0, _⟩ | ⟨_, rfl⟩), b2⟩
    · exact (hno' h0).elim
    have HRN := Lib.hid (refNew_any l n c w.heap.size A w2 (HL.out.below (bnext HB3.out b2)) (bnext HB3.out b2).size (by omega))
    have hB0 := boxed_below Z0.out b2 Z0.out.lt
    have c0 := hB0.cell
    have hB2 := boxed_below Z.out b2 Z.out.lt
    have HB2 := Lib.hid (bnext HB3.out b2)
    obtain ⟨z, hz⟩ : ∃ z, z = newE l := ⟨_, rfl⟩
    rw [← hz] at hno' HRN ⊢
    have hz1 : ((z : Int) != 0) = true := by rw [bne_iff_ne]; exact hno'
    have hz3 : ((z : Int) == z) = true := by simp
    clear hz hno' b2
    go_wp2_with fail
    refine HRN.out.mono ?_
    rintro e w3 ⟨rfl, b3⟩
    have hB3 := boxed_below hB2 b3 hB2.lt
    go_wp2_with (first | (go_at_call 10; refine (num_any _ _).mono ?_; rintro e w' ⟨rfl, rfl⟩) | (go_at_call 8; refine (HWK.out _ (bnext HB2.out b3)).mono ?_; rintro e w4 ⟨rfl, b4⟩; have hB := boxed_below hB3 b4 hB3.lt; have c1 := hB.cell; have f1 := hB.frozen; have d1 := (hB.set (.bool true)).cell))
    refine bodyPost_ret (v := .bool true) (by simp [results, Tryd.results5, go_sem, d1]) rfl ⟨rfl, ?_⟩
    exact (bnext (bnext HB2.out b3) b4).setCell (p := ⟨w.heap.size + 1 + 1, 0, none⟩) (by show w.heap.size ≤ w.heap.size + 1 + 1; omega) _

set_option maxHeartbeats 8000000 in
theorem faceups_yes (l : List Fc) (n c : Nat) (A : Option Addr) (many : Int) (x : Ac9) (w : World) (hL : Ls w w.heap.size A n c l) (hR : RelsAt w) (hn : n ≤ 16) (hE : newE l = 0) :
    Calls Tryd.prog 5 #[.slice A n c, .int .i64 many, .agg (ac9A x)] w fun e w' => e = .returned (.bool true) ∧ Below w.heap.size w w' := by
  have hfn : ∀ (lb : Array Value) (w : World), (binOp .eql 48 (.func (.func 50) #[] lb) .nilFunc).run Tryd.prog w = .ok (.bool false) w := fun _ _ => rfl
  have HACT := Lib.hid (fun W g v (hF : Fs W (w.heap.size + 3) g v l) (hs : w.heap.size + 3 ≤ W.heap.size) (hl : Ls W W.heap.size A n c l) (ho : 0 < n → ∀ a, A = some a → v.ownBlock ≠ some a.block) => act9_any x hF hs hl ho)
  obtain ⟨wh, xi, xu⟩ := x
  simp only [ac9A] at HACT ⊢
  have B3 : Below w.heap.size w (((w.alloc (.cells #[.slice A n c] 22)).alloc (.cells #[.int .i64 wh, .int .i64 xi, .bool xu] 46)).alloc (.cells #[.bool false] 4)) := balloc (balloc (balloc (Below.refl _ _) _) _) _
  have z0 := ((Boxed.new w 22 (.slice A n c)).alloc (.cells #[.int .i64 wh, .int .i64 xi, .bool xu] 46)).alloc (.cells #[.bool false] 4)
  have z1 := (Blk.new (w.alloc (.cells #[.slice A n c] 22)) 46 #[.int .i64 wh, .int .i64 xi, .bool xu]).alloc (.cells #[.bool false] 4)
  have z2 := Boxed.new ((w.alloc (.cells #[.slice A n c] 22)).alloc (.cells #[.int .i64 wh, .int .i64 xi, .bool xu] 46)) 4 (.bool false)
  simp only [World.size_alloc] at z1 z2
  have HL := Lib.hid hL
  have hcap := hL.cap
  have HWK := Lib.hid (fun W (hb : Below w.heap.size w W) => works9_any W (hR.below hb))
  have hs3 : (((w.alloc (.cells #[.slice A n c] 22)).alloc (.cells #[.int .i64 wh, .int .i64 xi, .bool xu] 46)).alloc (.cells #[.bool false] 4)).heap.size = w.heap.size + 3 := by simp
  have HNW := Lib.hid (new_any l n c w.heap.size A _ (hL.below B3) B3.size (hR.below B3) (by omega))
  have X := Lib.hid (And.intro z0 (And.intro z1 (And.intro z2 B3)))
  have HS3 := Lib.hid hs3
  clear hL hR B3 z0 z1 z2 hs3
  have hg1 : decide ((16 : Int) < n) = false := decide_eq_false (by omega)
  have hg1' : decide (16 < n) = false := decide_eq_false (by omega)
  refine (callsIn_wide (n := 6)).1 ?_
  refine callsIn_of_wp_marks Tryd.func5 rfl trivial ?_ rfl
  simp only [Tryd.ntmps5, List.size_toArray, List.length_cons, List.length_nil, Nat.reduceAdd, Nat.reduceSub, Array.replicate_succ, Array.replicate_zero, List.push_toArray, List.append_toArray, List.nil_append, List.cons_append]
  gi_wp2_with fail
  refine ⟨trivial, ?_⟩
  refine (callsIn_wide.2 HNW.out).mono ?_
  rintro e w2 ⟨(⟨_, g, v, rfl, hF⟩ | ⟨hno, _⟩), b2⟩
  case inr => exact (hno hE).elim
  rw [HS3.out] at hF
  have HF := Lib.hid hF
  have hw2 : w.heap.size + 3 ≤ w2.heap.size := by have := b2.size; rw [HS3.out] at this; exact this
  have Y := Lib.hid (And.intro (boxed_below X.out.1 b2 X.out.1.lt) (And.intro (X.out.2.1.below b2 X.out.2.1.lt) (And.intro (boxed_below X.out.2.2.1 b2 X.out.2.2.1.lt) (bnext X.out.2.2.2 b2))))
  have HRN := Lib.hid (refNew_any l n c w.heap.size A w2 (HL.out.below Y.out.2.2.2) Y.out.2.2.2.size (by omega))
  rw [hE] at HRN
  have c0 := Y.out.1.cell
  clear hF b2 X HNW HS3
  gi_wp2_with fail
  refine ⟨trivial, ?_⟩
  refine (callsIn_wide.2 HRN.out).mono ?_
  rintro e w3 ⟨rfl, b3⟩
  have HB3 := Lib.hid b3
  have hw3 : w.heap.size + 3 ≤ w3.heap.size := Nat.le_trans hw2 b3.size
  have HU := Lib.hid (ups_some (HF.out.below b3))
  clear b3 HRN c0
  gi_wp2_with fail
  refine ⟨trivial, ?_⟩
  refine (callsIn_wide.2 HU.out).mono ?_
  rintro e w4 ⟨lb, rfl, hA, b4⟩
  have HA := Lib.hid hA
  have HB4 := Lib.hid (bnext HB3.out b4)
  have HY4 := Lib.hid (bnext Y.out.2.2.2 HB4.out)
  have HUP := Lib.hid (upsl_any l (some ⟨g, 0, none⟩) many n c A w4 (HL.out.next HY4.out) hn (fun W hW => ups_some ((HF.out.below HB4.out).below hW)))
  have y0 := (boxed_below Y.out.1 HB4.out Y.out.1.lt).cell
  clear hA HU
  gi_wp2_with fail
  refine ⟨trivial, ?_⟩
  refine (callsIn_wide.2 HUP.out).mono ?_
  rintro e w5 ⟨rfl, b5⟩
  have HB5 := Lib.hid (bnext HB4.out b5)
  have HB45 := Lib.hid b5
  have HY5 := Lib.hid (bnext Y.out.2.2.2 HB5.out)
  have hw5 : w2.heap.size ≤ w5.heap.size := HB5.out.size
  have hvb := own_base' HF.out.own
  have hvl := own_lt HF.out.own
  have hoff : 0 < n → ∀ a, A = some a → v.ownBlock ≠ some a.block := fun h0 a ha e => by
    have := HL.out.lt h0 a ha
    have := hvb _ e
    omega
  have HAC := Lib.hid (HACT.out w5 g v (HF.out.below HB5.out) (by omega) (HL.out.next HY5.out) hoff)
  have u0 := (boxed_below Y.out.1 HB5.out Y.out.1.lt).cell
  have hu1 := Y.out.2.1.below HB5.out Y.out.2.1.lt
  have u10 := (hu1).cell 0
  have u11 := (hu1).cell 1
  have u12 := (hu1).cell 2
  simp only [List.getElem?_toArray, List.getElem?_cons_zero, List.getElem?_cons_succ] at u10 u11 u12
  have HOFF := Lib.hid hoff
  have HVB := Lib.hid hvb
  have HVL := Lib.hid hvl
  clear b4 b5 y0 hoff HACT HUP hu1 hvb hvl
  gi_wp2_with fail
  refine ⟨trivial, ?_⟩
  refine (callsIn_wide.2 HAC.out).mono ?_
  rintro e w6 ⟨g', v', A', c', rfl, hQ⟩
  have hgz := hQ.gz
  have hbg : Below (w.heap.size + 3) w5 w6 := Fr.below hgz (by omega) (fun b hb e => by have := HVB.out b e; omega)
  have hbw : Below (w.heap.size + 3) w2 w6 := (HB5.out.mono hw2).trans hbg
  have hw6 : w5.heap.size ≤ w6.heap.size := hgz.2.2.2.1
  have HA6 := Lib.hid (HA.out.fr (q := (· < w6.heap.size)) (r := fun k => v.ownBlock ≠ some k) (w' := w6) (Fr.trans (Fr.of_below HB45.out) hgz) (fun b hb _ e => by have h1 := HVL.out b e; have h2 := HB3.out.size; omega) (fun b _ hl => by have := HB45.out.size; omega))
  have HY6 := Lib.hid (Y.out.2.2.2.trans (hbw.mono (by omega)))
  have hz0 := boxed_below Y.out.1 hbw (by omega)
  have hz2 := boxed_below Y.out.2.2.1 hbw (by omega)
  have HL6 := Lib.hid (HL.out.next HY6.out)
  clear u10 u11 u12
  clear u0 hQ hgz hbg hbw HAC HA
  gi_wp2_with fail
  have v0 := hz0.alloc (.cells #[.int .i64 0] 3)
  have v2 := hz2.alloc (.cells #[.int .i64 0] 3)
  have bn0 := Boxed.new w6 3 (.int .i64 0)
  have bl0 : Below w6.heap.size w6 (w6.alloc (.cells #[.int .i64 0] 3)) := balloc (Below.refl _ _) _
  have hsn1 : w6.heap.size + 1 ≤ (w6.alloc (.cells #[.int .i64 0] 3)).heap.size := by simp
  generalize w6.alloc (.cells #[.int .i64 0] 3) = Wn at *
  have V := Lib.hid (And.intro v0 (And.intro v2 (And.intro bn0 bl0)))
  clear v0 v2 bn0 bl0 hz0 hz2
  refine range_ownE rfl (by omega) (gf := 50) (lb := lb) rfl trivial (enters_of Tryd.func50 (by kernel_rfl) rfl)
    (ups_stops 5 (by omega) w6.heap.size l lb w6 (Wn.heap.size + 2) HA6.out (Nat.le_refl _)) (fun h1 h2 => h1.trans h2) (fun W o h => below_putObj W _ o (by omega)) V.out.2.2.2 (fun _ => rfl)
    (RV Wn w6.heap.size) (fun _ _ _ => False) (RV.stable (by omega)) (fun c s W W' h _ => h) ⟨V.out.2.2.1, Below.refl _ _⟩ (fun W W' hs hb => hb.mono (by omega))
    (AxF w6.heap.size l ?a10) (fun pre x a' W W' h hl hk => h.put hl hk) ?assign ?body ?done ?stop
  case assign =>
    rintro lp pre x W K hI e1 hsz hK
    have E1 := Lib.hid e1
    clear e1
    simp only [upE, fcA]
    gi_wp2
    obtain ⟨Bx, hBx⟩ : ∃ Bx, W.heap.size = Bx := ⟨_, rfl⟩
    have bX := Blk.new W 35 (fcA (l.getD x fZ))
    have bb := balloc (Below.refl W.heap.size W) (.cells (fcA (l.getD x fZ)) 35)
    rw [hBx] at bX ⊢
    have hK' := hK (?a10 x Bx) _ bb ⟨Bx, by omega, bX, rfl, E1.out⟩
    exact hK'
  case body =>
    rintro lp pre x a' W ⟨hn0, hbW⟩ ⟨Bx, hBx, bX, rfl, hE⟩ hlt
    try dsimp only
    obtain ⟨hl1, hl2, hl3⟩ := up_next hE
    obtain ⟨f, hf⟩ : ∃ f, l[x]? = some f := ⟨_, List.getElem?_eq_getElem hl2⟩
    have hg : l.getD x fZ = f := by rw [List.getD, hf]; rfl
    rw [hg] at bX hl3
    have hb6 : Below w6.heap.size w6 W := V.out.2.2.2.trans hbW
    obtain ⟨b, off, hAe, _, e0, e1, e2, e3⟩ := fc_at (HL6.out.rd.below hb6) hf
    have q0 := (boxed_below V.out.1 hbW (by omega)).cell
    obtain ⟨na, nl, ad, up⟩ := f
    simp only at e0 e1 e2 e3 hl3
    subst hl3
    subst hAe
    have hNE := ne_fc na nl ad na nl ad true true
    simp only [beq_self_eq_true, Bool.and_self, Bool.not_true] at hNE
    unfold fcA at bX
    simp only at bX
    have m0 := (bX).cell 0
    have m1 := (bX).cell 1
    have m2 := (bX).cell 2
    have m3 := (bX).cell 3
    simp only [List.getElem?_toArray, List.getElem?_cons_zero, List.getElem?_cons_succ] at m0 m1 m2 m3
    have hxn : x < n := by rw [← HL.out.len]; exact hl2
    have hi1 : decide ((x : Int) < 0) = false := decide_eq_false (by omega)
    have hi2 : decide ((n : Int) ≤ (x : Int)) = false := decide_eq_false (by omega)
    have hi3 : decide (n ≤ x) = false := decide_eq_false (by omega)
    have hi4 : (0 : Int) ≤ (x : Int) ∧ (x : Int) < (n : Int) := by omega
    have hpl : pre.length ≤ 16 := by have h1 := upTo_len l l.length; have h2 := hlt; unfold upsI at h2; rw [HL.out.len] at h1 h2; omega
    clear hf hg hl1
    gi_wp2_with fail
    refine region_round rfl (by kernel_rfl) (by kernel_rfl) (by kernel_rfl) ?_
    repeat (gi_big_quiet_step (fail))
    refine wpQuietIn_nil ?_
    rintro _ ⟨nq, rfl⟩
    have KQ : KeepsFrom Wn.heap.size W (W.drewN nq) := keeps_below (below_drewN (Below.refl _ _) nq)
    have BQ : Below w6.heap.size W (W.drewN nq) := below_drewN (Below.refl _ _) nq
    have hnq0 : Boxed (W.drewN nq) w6.heap.size 3 (.int .i64 pre.length) := hn0
    have hbWq : Below w6.heap.size Wn (W.drewN nq) := hbW.trans BQ
    clear hNE m0 m1 m2 m3 e0 e1 e2 e3 q0 hi1 hi2 hi3 hi4 bX hn0
    generalize W.drewN nq = Wq at *
    have h1c := hnq0.cell
    have h1d := hnq0.frozen
    have h2a : Boxed (Wq.setCell ⟨w6.heap.size, 0, none⟩ (.int .i64 ((pre.length : Int) + 1))) w6.heap.size 3 (.int .i64 ((pre.length : Int) + 1)) := hnq0.set _
    have hB2 : Below w6.heap.size Wq (Wq.setCell ⟨w6.heap.size, 0, none⟩ (.int .i64 ((pre.length : Int) + 1))) := (Below.refl _ _).setCell (p := ⟨w6.heap.size, 0, none⟩) (Nat.le_refl _) _
    have KF : KeepsFrom Wn.heap.size W (Wq.setCell ⟨w6.heap.size, 0, none⟩ (.int .i64 ((pre.length : Int) + 1))) := KQ.trans ((KeepsOthers.setCell _ _ _).from _)
    have FI := Lib.hid (And.intro h2a (And.intro (hbWq.trans hB2) (And.intro KF (BQ.trans hB2))))
    have HLN := Lib.hid (len_snoc pre x)
    clear h2a hB2 KF KQ BQ hnq0 hbWq
    gi_wp2
    refine ⟨FI.out.2.2.1, FI.out.2.2.2, ?_, FI.out.2.1⟩
    rw [HLN.out]
    simpa using FI.out.1
  case stop =>
    rintro D0 cc pre Wm hD0 hpre h hK0
    exact h.elim
  case done =>
    rintro D0 ys Wm hD0 rfl ⟨hn, hbW⟩ hK0
    have t0 := (boxed_below V.out.1 hbW (by omega)).cell
    have t2 := boxed_below V.out.2.1 hbW (by omega)
    have tn := hn.cell
    have HBM := Lib.hid (HY6.out.trans ((V.out.2.2.2.trans hbW).mono HY6.out.size))
    have HK0 := Lib.hid hK0
    have HT2 := Lib.hid t2
    clear hK0 t2 hbW hn
    gi_wp2_with fail
    gi_loop [12, 15] (fun al i => ∃ j : Nat, j ≤ n ∧ i = .int .i64 j ∧ al = .int .i64 (upTo l j).length) (fun _ i => n - (intOf i).toNat)
    case atStart => exact ⟨0, Nat.zero_le _, rfl, rfl⟩
    case round =>
      obtain ⟨j, hj, rfl, rfl⟩ := hrel
      by_cases hlt : j < n
      · obtain ⟨f, hf⟩ : ∃ f, l[j]? = some f := ⟨l[j]'(by rw [HL.out.len]; exact hlt), List.getElem?_eq_getElem _⟩
        have hg : l.getD j fZ = f := by rw [List.getD, hf]; rfl
        obtain ⟨b, off, hAe, _, e0, e1, e2, e3⟩ := fc_at (HL.out.rd.below HBM.out) hf
        subst hAe
        obtain ⟨na, nl, ad, up⟩ := f
        simp only at e0 e1 e2 e3
        have hj4 : (upTo l j).length ≤ j := upTo_len l j
        cases hup : up
        · subst hup
          have hu : (upTo l (j + 1)).length = (upTo l j).length := by rw [upTo_no (by rw [hg])]
          have HU := Lib.hid hu
          clear hu hg hf
          generalize (upTo l j).length = q at *
          gi_wp2
          go_round
          case rel => exact ⟨j + 1, by omega, by go_num, by rw [HU.out]⟩
          case measure => simp [intOf]; omega
        · subst hup
          have hu : (upTo l (j + 1)).length = (upTo l j).length + 1 := by rw [upTo_yes (by rw [hg])]; simp
          have HU := Lib.hid hu
          clear hu hg hf
          generalize (upTo l j).length = q at *
          gi_wp2
          go_round
          case rel => exact ⟨j + 1, by omega, by go_num, by rw [HU.out]; go_num⟩
          case measure => simp [intOf]; omega
      · obtain rfl : j = n := by omega
        have hul : (upTo l j).length = (upsI l).length := by unfold upsI; rw [HL.out.len]
        rw [hul]
        clear hul
        generalize (upsI l).length = al at *
        have hee : ((al : Int) == (al : Int)) = true := by simp
        have hlD0 := (Array.getElem?_eq_some_iff.1 HK0.out).1
        gi_wp2_with (first | (refine ⟨trivial, ?_⟩; gi_at_call 8; refine (callsIn_wide.2 (HWK.out _ HBM.out)).mono ?_; rintro e w9 ⟨rfl, b9⟩; have z9 := boxed_below HT2.out b9 HT2.out.lt; have q9 := z9.cell; have k9 := z9.frozen))
        have K0 : w9.heap[D0]? = some (.deferred (some [])) := (b9.block D0 hlD0).trans HK0.out
        have K0' := (KeepsOthers.setCell w9 ⟨w.heap.size + 1 + 1, 0, none⟩ (.bool true)).same D0 _ K0 rfl
        have r9 := (z9.set (.bool true)).cell
        have b10 : Below w.heap.size w (w9.setCell ⟨w.heap.size + 1 + 1, 0, none⟩ (.bool true)) := (bnext HBM.out b9).setCell (p := ⟨w.heap.size + 1 + 1, 0, none⟩) (by show w.heap.size ≤ w.heap.size + 1 + 1; omega) _
        generalize w9.setCell ⟨w.heap.size + 1 + 1, 0, none⟩ (.bool true) = wz at *
        have r10 := cell_kept r9 (grownBy_putObj' _ D0 (.deferred none)) (fun r e => by cases e; exact ⟨_, K0', rfl⟩)
        refine ⟨by simp, .inl ⟨_, _, rfl, run_takeDeferred K0', ?_⟩⟩
        refine ⟨.bool true, by simp [results, Tryd.f5, go_sem, r10], rfl, ?_⟩
        exact b10.trans (belowK_b (w := w) (Nat.le_refl _) _ D0 _ _ (by omega) K0' rfl rfl)
theorem faceups_walk (l : List Fc) (n c : Nat) (A : Option Addr) (many : Int) (x : Ac9) (w : World) (hL : Ls w w.heap.size A n c l) (hR : RelsAt w) :
    Calls Tryd.prog 5 #[.slice A n c, .int .i64 many, .agg (ac9A x)] w fun e w' => e = .returned (.bool true) ∧ Below w.heap.size w w' := by
  by_cases h : 16 < n ∨ newE l ≠ 0
  · exact faceups_no l n c A many x w hL hR h
  · exact faceups_yes l n c A many x w hL hR (by omega) (by by_cases h' : newE l = 0; exact h'; exact (h (.inr h')).elim)
end Go.Proofs.YtfgbliglgdkgpaaDoor
