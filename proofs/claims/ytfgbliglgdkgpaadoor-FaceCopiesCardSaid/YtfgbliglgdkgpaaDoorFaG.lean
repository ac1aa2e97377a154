/- face: ups: what Ups hands on is the document's. -/
import Derived.Test.YtfgbliglgdkgpaaDoorFaF
namespace Go.Proofs.YtfgbliglgdkgpaaDoor
set_option linter.unusedVariables false
set_option linter.unusedSimpArgs false
open Go.RowKit Go.Shelf
attribute [local go_sem] Oper.semAt_some
set_option maxRecDepth 100000
/-- the loop's variables: a number, and a face in a block of its own -/
def AxF (Bn : Nat) (l : List Fc) (mk : Nat → Nat → Act) (pre : List Nat) (x : Nat) (a' : Act) (W : World) : Prop :=
  ∃ Bx, Bn < Bx ∧ Blk W Bx 35 (fcA (l.getD x fZ)) ∧ a' = mk x Bx ∧ pre ++ [x] <+: upsI l
theorem AxF.put {Bn L : Nat} {l : List Fc} {mk : Nat → Nat → Act} {pre : List Nat} {x : Nat} {a' : Act} {W W' : World} (h : AxF Bn l mk pre x a' W) (hl : ∃ r, W.heap[L]? = some (.loop r)) (hk : ∀ k, k ≠ L → W'.heap[k]? = W.heap[k]?) : AxF Bn l mk pre x a' W' := by
  obtain ⟨Bx, h1, h2, h3, h4⟩ := h
  exact ⟨Bx, h1, blk_put h2 hl hk, h3, h4⟩
/-- between two rounds: what came is counted in a box, the last number lies in the next one -/
def RU (W1 : World) (Bn : Nat) (p : Nat → Prop) (pre : List Nat) (W : World) : Prop := (Boxed W Bn 3 (.int .i64 pre.length) ∧ Boxed W (Bn + 1) 3 (.int .i64 (lastI pre)) ∧ Below Bn W1 W) ∧ p pre.length
def RUX (W1 : World) (Bn : Nat) (id : Nat) (p : Nat → Prop) (c : Code) (pre : List Nat) (W : World) : Prop := c = .exit id ∧ RU W1 Bn p pre W
theorem RU.stable {W1 : World} {Bn : Nat} {p : Nat → Prop} {B : Nat} (h1 : Bn + 1 < B) : Stable B (RU W1 Bn p) := fun s W W' hs hb => ⟨⟨boxed_below hs.1.1 hb (by omega), boxed_below hs.1.2.1 hb h1, hs.1.2.2.trans (hb.mono (by omega))⟩, hs.2⟩
theorem RUX.stable {W1 : World} {Bn id : Nat} {p : Nat → Prop} {B : Nat} (h1 : Bn + 1 < B) (c : Code) : Stable B (RUX W1 Bn id p c) := fun s W W' hs hb => ⟨hs.1, RU.stable h1 s W W' hs.2 hb⟩

set_option maxHeartbeats 8000000 in
theorem upsl_any (l : List Fc) (x : Option Addr) (many : Int) (n c : Nat) (A : Option Addr) (w : World) (hL : Ls w w.heap.size A n c l) (hn : n ≤ 16) (HU : ∀ W, Below w.heap.size w W → Calls Tryd.prog 18 #[.pointer x] W (UpsP l W)) :
    Calls Tryd.prog 19 #[.pointer x, .slice A n c, .int .i64 many] w fun e w' => e = .returned (.bool true) ∧ Below w.heap.size w w' := by
  have hfn : ∀ (lb : Array Value) (w : World), (binOp .eql 48 (.func (.func 50) #[] lb) .nilFunc).run Tryd.prog w = .ok (.bool false) w := fun _ _ => rfl
  have B3 : Below w.heap.size w (((w.alloc (.cells #[.slice A n c] 22)).alloc (.cells #[.int .i64 many] 3)).alloc (.cells #[.bool false] 4)) := balloc (balloc (balloc (Below.refl _ _) _) _) _
  have z0 := ((Boxed.new w 22 (.slice A n c)).alloc (.cells #[.int .i64 many] 3)).alloc (.cells #[.bool false] 4)
  have z1 := (Boxed.new (w.alloc (.cells #[.slice A n c] 22)) 3 (.int .i64 many)).alloc (.cells #[.bool false] 4)
  have z2 := Boxed.new ((w.alloc (.cells #[.slice A n c] 22)).alloc (.cells #[.int .i64 many] 3)) 4 (.bool false)
  simp only [World.size_alloc] at z1 z2
  have X := Lib.hid (And.intro z0 (And.intro z1 (And.intro z2 B3)))
  have HC := Lib.hid (HU _ B3)
  have hs3 : (((w.alloc (.cells #[.slice A n c] 22)).alloc (.cells #[.int .i64 many] 3)).alloc (.cells #[.bool false] 4)).heap.size = w.heap.size + 3 := by simp
  have HS3 := Lib.hid hs3
  have HL := Lib.hid hL
  have hcap := hL.cap
  clear z0 z1 z2 B3 hs3 HU hL
  refine (callsIn_wide (n := 6)).1 ?_
  refine callsIn_of_wp_marks Tryd.func19 rfl trivial ?_ rfl
  simp only [Tryd.ntmps19, List.size_toArray, List.length_cons, List.length_nil, Nat.reduceAdd, Nat.reduceSub, Array.replicate_succ, Array.replicate_zero, List.push_toArray, List.append_toArray, List.nil_append, List.cons_append]
  gi_wp2_with fail
  refine ⟨trivial, ?_⟩
  refine (callsIn_wide.2 HC.out).mono ?_
  rintro e w2 ⟨lb, rfl, hA, b2⟩
  have HA := Lib.hid (hA.fr (q := (· < w2.heap.size)) (Fr.refl (p := fun _ => True)) (fun _ _ _ => trivial) (fun b _ h => h))
  have hw2 : w.heap.size + 3 ≤ w2.heap.size := by have := b2.size; rw [HS3.out] at this; exact this
  have y0 := boxed_below X.out.1 b2 X.out.1.lt
  have y1 := boxed_below X.out.2.1 b2 X.out.2.1.lt
  have y2 := boxed_below X.out.2.2.1 b2 X.out.2.2.1.lt
  have bw2 := bnext X.out.2.2.2 b2
  clear hA b2 X HC HS3
  gi_wp2_with fail
  have v0 := (y0.alloc (.cells #[.int .i64 0] 3)).alloc (.cells #[.int .i64 (-1)] 3)
  have v1 := (y1.alloc (.cells #[.int .i64 0] 3)).alloc (.cells #[.int .i64 (-1)] 3)
  have v2 := (y2.alloc (.cells #[.int .i64 0] 3)).alloc (.cells #[.int .i64 (-1)] 3)
  have bn0 := (Boxed.new w2 3 (.int .i64 0)).alloc (.cells #[.int .i64 (-1)] 3)
  have bn1 := Boxed.new (w2.alloc (.cells #[.int .i64 0] 3)) 3 (.int .i64 (-1))
  have bl0 : Below w2.heap.size w2 ((w2.alloc (.cells #[.int .i64 0] 3)).alloc (.cells #[.int .i64 (-1)] 3)) := balloc (balloc (Below.refl _ _) _) _
  simp only [World.size_alloc] at bn1
  have hsn1 : w2.heap.size + 2 ≤ ((w2.alloc (.cells #[.int .i64 0] 3)).alloc (.cells #[.int .i64 (-1)] 3)).heap.size := by simp
  generalize (w2.alloc (.cells #[.int .i64 0] 3)).alloc (.cells #[.int .i64 (-1)] 3) = Wn at *
  have Y := Lib.hid (And.intro v0 (And.intro v1 (And.intro v2 (And.intro bn0 (And.intro bn1 bl0)))))
  have HB := Lib.hid bw2
  clear v0 v1 v2 bn0 bn1 bl0 y0 y1 y2 bw2
  refine range_ownE rfl (by omega) (gf := 50) (lb := lb) rfl trivial (enters_of Tryd.func50 (by kernel_rfl) rfl)
    (ups_stops 5 (by omega) w2.heap.size l lb w2 (Wn.heap.size + 2) HA.out (Nat.le_refl _)) (fun h1 h2 => h1.trans h2) (fun W o h => below_putObj W _ o (by omega)) Y.out.2.2.2.2.2 (fun _ => rfl)
    (RU Wn w2.heap.size (fun c => c = 0 ∨ (c : Int) < many)) (RUX Wn w2.heap.size 0 (fun c => 0 < c ∧ many ≤ c ∧ (c = 1 ∨ (c : Int) - 1 < many))) (RU.stable (by omega)) (fun c => RUX.stable (by omega) c) ⟨⟨Y.out.2.2.2.1, Y.out.2.2.2.2.1, Below.refl _ _⟩, by simp⟩ (fun W W' hs hb => hb.mono (by omega))
    (AxF (w2.heap.size + 1) l ?a10) (fun pre x a' W W' h hl hk => h.put hl hk) ?assign ?body ?done ?stop
  case assign =>
    rintro lp pre x W K hI e1 hsz hK
    have E1 := Lib.hid e1
    clear e1
    have hFE : fcA (l.getD x fZ) = fcA (l.getD x fZ) := rfl
    simp only [upE, fcA]
    gi_wp2
    obtain ⟨Bx, hBx⟩ : ∃ Bx, W.heap.size = Bx := ⟨_, rfl⟩
    have bX := Blk.new W 35 (fcA (l.getD x fZ))
    have bb := balloc (Below.refl W.heap.size W) (.cells (fcA (l.getD x fZ)) 35)
    rw [hBx] at bX ⊢
    have hK' := hK (?a10 x Bx) _ bb ⟨Bx, by omega, bX, rfl, E1.out⟩
    exact hK'
  case body =>
    rintro lp pre x a' W ⟨⟨hn0, hn1, hbW⟩, hp⟩ ⟨Bx, hBx, bX, rfl, hE⟩ hlt
    try dsimp only at hp
    try dsimp only
    obtain ⟨hl1, hl2, hl3⟩ := up_next hE
    obtain ⟨f, hf⟩ : ∃ f, l[x]? = some f := ⟨_, List.getElem?_eq_getElem hl2⟩
    have hg : l.getD x fZ = f := by rw [List.getD, hf]; rfl
    rw [hg] at bX hl3
    have hb2 : Below w.heap.size w W := HB.out.trans ((Y.out.2.2.2.2.2.trans hbW).mono (by omega))
    obtain ⟨b, off, hAe, _, e0, e1, e2, e3⟩ := fc_at (HL.out.rd.below hb2) hf
    have q0 := (boxed_below Y.out.1 hbW (by omega)).cell
    have ql := hn1.cell
    obtain ⟨na, nl, ad, up⟩ := f
    simp only at e0 e1 e2 e3 hl3
    subst hl3
    subst hAe
    have hNE := ne_fc na nl ad na nl ad true true
    simp only [beq_self_eq_true, Bool.and_self, Bool.not_true] at hNE
    unfold fcA at bX
    simp only at bX
    have m0 := (bX).cell 0
    have m1 := (bX).cell 1
    have m2 := (bX).cell 2
    have m3 := (bX).cell 3
    simp only [List.getElem?_toArray, List.getElem?_cons_zero, List.getElem?_cons_succ] at m0 m1 m2 m3
    have hxn : x < n := by rw [← HL.out.len]; exact hl2
    have hi1 : decide ((x : Int) ≤ lastI pre) = false := decide_eq_false (by omega)
    have hi2 : decide ((n : Int) ≤ (x : Int)) = false := decide_eq_false (by omega)
    have hi3 : decide (n ≤ x) = false := decide_eq_false (by omega)
    have hi4 : (0 : Int) ≤ (x : Int) ∧ (x : Int) < (n : Int) := by omega
    have hpl : pre.length ≤ 16 := by have h1 := upTo_len l l.length; have h2 := hlt; unfold upsI at h2; rw [HL.out.len] at h1 h2; omega
    have HL1 := Lib.hid hl1
    clear hf hg hl1
    generalize hla : lastI pre = la at *
    have HLA := Lib.hid hla
    clear hla
    gi_wp2_with fail
    refine region_round rfl (by kernel_rfl) (by kernel_rfl) (by kernel_rfl) ?_
    repeat (gi_big_quiet_step (fail))
    refine wpQuietIn_nil ?_
    rintro _ ⟨nq, rfl⟩
    have KQ : KeepsFrom Wn.heap.size W (W.drewN nq) := keeps_below (below_drewN (Below.refl _ _) nq)
    have BQ : Below w2.heap.size W (W.drewN nq) := below_drewN (Below.refl _ _) nq
    have hnq0 : Boxed (W.drewN nq) w2.heap.size 3 (.int .i64 pre.length) := hn0
    have hnq1 : Boxed (W.drewN nq) (w2.heap.size + 1) 3 (.int .i64 la) := hn1
    have q5 : (W.drewN nq).cell? ⟨w.heap.size + 1, 0, none⟩ = some (.int .i64 many) := (boxed_below Y.out.2.1 hbW (by omega)).cell
    have hbWq : Below w2.heap.size Wn (W.drewN nq) := hbW.trans BQ
    clear hNE m0 m1 m2 m3 e0 e1 e2 e3 q0 ql hi1 hi2 hi3 hi4 bX hn0 hn1
    generalize W.drewN nq = Wq at *
    have kn1 := hnq1.frozen
    have kc1 := hnq1.cell
    have h1a : Boxed (Wq.setCell ⟨w2.heap.size + 1, 0, none⟩ (.int .i64 x)) w2.heap.size 3 (.int .i64 pre.length) := (Below.heap_setCell Wq ⟨w2.heap.size + 1, 0, none⟩ _ w2.heap.size (by show w2.heap.size ≠ w2.heap.size + 1; omega)).trans hnq0
    have h1b : Boxed (Wq.setCell ⟨w2.heap.size + 1, 0, none⟩ (.int .i64 x)) (w2.heap.size + 1) 3 (.int .i64 x) := hnq1.set _
    have h1c := h1a.cell
    have h1d := h1a.frozen
    have h2a : Boxed ((Wq.setCell ⟨w2.heap.size + 1, 0, none⟩ (.int .i64 x)).setCell ⟨w2.heap.size, 0, none⟩ (.int .i64 ((pre.length : Int) + 1))) w2.heap.size 3 (.int .i64 ((pre.length : Int) + 1)) := h1a.set _
    have h2b : Boxed ((Wq.setCell ⟨w2.heap.size + 1, 0, none⟩ (.int .i64 x)).setCell ⟨w2.heap.size, 0, none⟩ (.int .i64 ((pre.length : Int) + 1))) (w2.heap.size + 1) 3 (.int .i64 x) := (Below.heap_setCell _ ⟨w2.heap.size, 0, none⟩ _ (w2.heap.size + 1) (by show w2.heap.size + 1 ≠ w2.heap.size; omega)).trans h1b
    have h2c := h2a.cell
    have hB2 : Below w2.heap.size Wq ((Wq.setCell ⟨w2.heap.size + 1, 0, none⟩ (.int .i64 x)).setCell ⟨w2.heap.size, 0, none⟩ (.int .i64 ((pre.length : Int) + 1))) := ((Below.refl _ _).setCell (p := ⟨w2.heap.size + 1, 0, none⟩) (by show w2.heap.size ≤ w2.heap.size + 1; omega) _).setCell (p := ⟨w2.heap.size, 0, none⟩) (Nat.le_refl _) _
    have q52 : ((Wq.setCell ⟨w2.heap.size + 1, 0, none⟩ (.int .i64 x)).setCell ⟨w2.heap.size, 0, none⟩ (.int .i64 ((pre.length : Int) + 1))).cell? ⟨w.heap.size + 1, 0, none⟩ = some (.int .i64 many) := (hB2.cell (p := ⟨w.heap.size + 1, 0, none⟩) (by show w.heap.size + 1 < _; omega)).trans q5
    have KF : KeepsFrom Wn.heap.size W ((Wq.setCell ⟨w2.heap.size + 1, 0, none⟩ (.int .i64 x)).setCell ⟨w2.heap.size, 0, none⟩ (.int .i64 ((pre.length : Int) + 1))) := (KQ.trans ((KeepsOthers.setCell _ _ _).from _)).trans ((KeepsOthers.setCell _ _ _).from _)
    have FI := Lib.hid (And.intro h2a (And.intro h2b (And.intro (hbWq.trans hB2) (And.intro KF (BQ.trans hB2)))))
    have HLN := Lib.hid (len_snoc pre x)
    have HLS := Lib.hid (lastI_snoc pre x)
    clear h1a h1b h2a h2b hB2 KF KQ BQ hnq0 hnq1 hbWq
    by_cases hmany : many ≤ (pre.length : Int) + 1
    · gi_wp2
      refine ⟨FI.out.2.2.2.1, rfl, ⟨?_, ?_, FI.out.2.2.1⟩, ?_⟩
      · rw [HLN.out]; simpa using FI.out.1
      · rw [HLS.out]; exact FI.out.2.1
      · rw [HLN.out]; omega
    · gi_wp2
      refine ⟨FI.out.2.2.2.1, FI.out.2.2.2.2, ⟨?_, ?_, FI.out.2.2.1⟩, ?_⟩
      · rw [HLN.out]; simpa using FI.out.1
      · rw [HLS.out]; exact FI.out.2.1
      · rw [HLN.out]; omega
  case done =>
    rintro D0 ys Wm hD0 rfl ⟨⟨hn, hn1, hbW⟩, hp⟩ hK0
    have hcnt : ((upsI l).length : Int) = min ((upsI l).length : Int) (max 1 many) := by omega
    obtain ⟨cnt, hcd⟩ : ∃ cnt, cnt = (upsI l).length := ⟨_, rfl⟩
    rw [← hcd] at hn
    replace hcnt : (cnt : Int) = min ((upsI l).length : Int) (max 1 many) := by rw [hcd]; exact hcnt
    clear hcd hp hn1
    have t0 := (boxed_below Y.out.1 hbW (by omega)).cell
    have t1 := (boxed_below Y.out.2.1 hbW (by omega)).cell
    have t2 := boxed_below Y.out.2.2.1 hbW (by omega)
    have t2c := t2.cell
    have t2f := t2.frozen
    have tn := hn.cell
    have bm : Below w.heap.size w Wm := HB.out.trans ((Y.out.2.2.2.2.2.trans hbW).mono (by omega))
    have HCN := Lib.hid hcnt
    have HBM := Lib.hid bm
    have HK0 := Lib.hid hK0
    have HT2 := Lib.hid t2
    have HBW := Lib.hid hbW
    clear hcnt bm hK0 t2 hbW hn
    gi_wp2_with fail
    gi_loop [12, 13] (fun al i => ∃ j : Nat, j ≤ n ∧ i = .int .i64 j ∧ al = .int .i64 (upTo l j).length) (fun _ i => n - (intOf i).toNat)
    case atStart => exact ⟨0, Nat.zero_le _, rfl, rfl⟩
    case round =>
      obtain ⟨j, hj, rfl, rfl⟩ := hrel
      by_cases hlt : j < n
      · obtain ⟨f, hf⟩ : ∃ f, l[j]? = some f := ⟨l[j]'(by rw [HL.out.len]; exact hlt), List.getElem?_eq_getElem _⟩
        have hg : l.getD j fZ = f := by rw [List.getD, hf]; rfl
        obtain ⟨b, off, hAe, _, e0, e1, e2, e3⟩ := fc_at (HL.out.rd.below HBM.out) hf
        subst hAe
        obtain ⟨na, nl, ad, up⟩ := f
        simp only at e0 e1 e2 e3
        have hj4 : (upTo l j).length ≤ j := upTo_len l j
        cases hup : up
        · subst hup
          have hu : (upTo l (j + 1)).length = (upTo l j).length := by rw [upTo_no (by rw [hg])]
          have HU := Lib.hid hu
          clear hu hg hf
          generalize (upTo l j).length = q at *
          gi_wp2
          go_round
          case rel => exact ⟨j + 1, by omega, by go_num, by rw [HU.out]⟩
          case measure => simp [intOf]; omega
        · subst hup
          have hu : (upTo l (j + 1)).length = (upTo l j).length + 1 := by rw [upTo_yes (by rw [hg])]; simp
          have HU := Lib.hid hu
          clear hu hg hf
          generalize (upTo l j).length = q at *
          gi_wp2
          go_round
          case rel => exact ⟨j + 1, by omega, by go_num, by rw [HU.out]; go_num⟩
          case measure => simp [intOf]; omega
      · obtain rfl : j = n := by omega
        have hul : (upTo l j).length = (upsI l).length := by unfold upsI; rw [HL.out.len]
        rw [hul]
        have hq1 : cnt ≤ (upsI l).length := by have := HCN.out; omega
        have hq2 : (cnt : Int) ≤ many ∨ (many ≤ 1 ∧ (cnt : Int) ≤ 1) := by have := HCN.out; omega
        have hq3 : (upsI l).length ≤ cnt ∨ (many ≤ cnt ∧ 1 ≤ (cnt : Int)) := by have := HCN.out; omega
        clear hul
        generalize (upsI l).length = al at *
        gi_wp2
        all_goals
          first
          | rw [show ((cnt : Int) == min (al : Int) (max 1 many)) = true by rw [beq_iff_eq]; exact HCN.out]
          | rw [show ((cnt : Int) == many) = true by rw [beq_iff_eq]; have := HCN.out; omega]
          | rw [show ((cnt : Int) == (al : Int)) = true by rw [beq_iff_eq]; have := HCN.out; omega]
          | rw [show ((cnt : Int) == 1) = true by rw [beq_iff_eq]; have := HCN.out; omega]
          have K0 := (KeepsOthers.setCell Wm ⟨w.heap.size + 1 + 1, 0, none⟩ (.bool true)).same D0 _ HK0.out rfl
          have r9 := (HT2.out.set (.bool true)).cell
          have b10 : Below w.heap.size w (Wm.setCell ⟨w.heap.size + 1 + 1, 0, none⟩ (.bool true)) := HBM.out.setCell (p := ⟨w.heap.size + 1 + 1, 0, none⟩) (by show w.heap.size ≤ w.heap.size + 1 + 1; omega) _
          generalize Wm.setCell ⟨w.heap.size + 1 + 1, 0, none⟩ (.bool true) = wz at *
          have r10 := cell_kept r9 (grownBy_putObj' _ D0 (.deferred none)) (fun r e => by cases e; exact ⟨_, K0, rfl⟩)
          refine ⟨by simp, .inl ⟨_, _, rfl, run_takeDeferred K0, ?_⟩⟩
          refine ⟨.bool true, by simp [results, Tryd.f19, go_sem, r10], rfl, ?_⟩
          exact b10.trans (belowK_b (w := w) (Nat.le_refl _) _ D0 _ _ (by omega) K0 rfl rfl)
  case stop =>
    rintro D0 cc pre Wm hD0 hpre ⟨rfl, ⟨hn, hn1, hbW⟩, hp⟩ hK0
    have hpn := hpre.length_le
    have hcnt : (pre.length : Int) = min ((upsI l).length : Int) (max 1 many) := by omega
    obtain ⟨cnt, hcd⟩ : ∃ cnt, cnt = pre.length := ⟨_, rfl⟩
    rw [← hcd] at hn hcnt
    clear hcd hp hpre hpn hn1
    have t0 := (boxed_below Y.out.1 hbW (by omega)).cell
    have t1 := (boxed_below Y.out.2.1 hbW (by omega)).cell
    have t2 := boxed_below Y.out.2.2.1 hbW (by omega)
    have t2c := t2.cell
    have t2f := t2.frozen
    have tn := hn.cell
    have bm : Below w.heap.size w Wm := HB.out.trans ((Y.out.2.2.2.2.2.trans hbW).mono (by omega))
    have HCN := Lib.hid hcnt
    have HBM := Lib.hid bm
    have HK0 := Lib.hid hK0
    have HT2 := Lib.hid t2
    have HBW := Lib.hid hbW
    clear hcnt bm hK0 t2 hbW hn
    gi_wp2_with fail
    gi_loop [12, 13] (fun al i => ∃ j : Nat, j ≤ n ∧ i = .int .i64 j ∧ al = .int .i64 (upTo l j).length) (fun _ i => n - (intOf i).toNat)
    case atStart => exact ⟨0, Nat.zero_le _, rfl, rfl⟩
    case round =>
      obtain ⟨j, hj, rfl, rfl⟩ := hrel
      by_cases hlt : j < n
      · obtain ⟨f, hf⟩ : ∃ f, l[j]? = some f := ⟨l[j]'(by rw [HL.out.len]; exact hlt), List.getElem?_eq_getElem _⟩
        have hg : l.getD j fZ = f := by rw [List.getD, hf]; rfl
        obtain ⟨b, off, hAe, _, e0, e1, e2, e3⟩ := fc_at (HL.out.rd.below HBM.out) hf
        subst hAe
        obtain ⟨na, nl, ad, up⟩ := f
        simp only at e0 e1 e2 e3
        have hj4 : (upTo l j).length ≤ j := upTo_len l j
        cases hup : up
        · subst hup
          have hu : (upTo l (j + 1)).length = (upTo l j).length := by rw [upTo_no (by rw [hg])]
          have HU := Lib.hid hu
          clear hu hg hf
          generalize (upTo l j).length = q at *
          gi_wp2
          go_round
          case rel => exact ⟨j + 1, by omega, by go_num, by rw [HU.out]⟩
          case measure => simp [intOf]; omega
        · subst hup
          have hu : (upTo l (j + 1)).length = (upTo l j).length + 1 := by rw [upTo_yes (by rw [hg])]; simp
          have HU := Lib.hid hu
          clear hu hg hf
          generalize (upTo l j).length = q at *
          gi_wp2
          go_round
          case rel => exact ⟨j + 1, by omega, by go_num, by rw [HU.out]; go_num⟩
          case measure => simp [intOf]; omega
      · obtain rfl : j = n := by omega
        have hul : (upTo l j).length = (upsI l).length := by unfold upsI; rw [HL.out.len]
        rw [hul]
        have hq1 : cnt ≤ (upsI l).length := by have := HCN.out; omega
        have hq2 : (cnt : Int) ≤ many ∨ (many ≤ 1 ∧ (cnt : Int) ≤ 1) := by have := HCN.out; omega
        have hq3 : (upsI l).length ≤ cnt ∨ (many ≤ cnt ∧ 1 ≤ (cnt : Int)) := by have := HCN.out; omega
        clear hul
        generalize (upsI l).length = al at *
        gi_wp2
        all_goals
          first
          | rw [show ((cnt : Int) == min (al : Int) (max 1 many)) = true by rw [beq_iff_eq]; exact HCN.out]
          | rw [show ((cnt : Int) == many) = true by rw [beq_iff_eq]; have := HCN.out; omega]
          | rw [show ((cnt : Int) == (al : Int)) = true by rw [beq_iff_eq]; have := HCN.out; omega]
          | rw [show ((cnt : Int) == 1) = true by rw [beq_iff_eq]; have := HCN.out; omega]
          have K0 := (KeepsOthers.setCell Wm ⟨w.heap.size + 1 + 1, 0, none⟩ (.bool true)).same D0 _ HK0.out rfl
          have r9 := (HT2.out.set (.bool true)).cell
          have b10 : Below w.heap.size w (Wm.setCell ⟨w.heap.size + 1 + 1, 0, none⟩ (.bool true)) := HBM.out.setCell (p := ⟨w.heap.size + 1 + 1, 0, none⟩) (by show w.heap.size ≤ w.heap.size + 1 + 1; omega) _
          generalize Wm.setCell ⟨w.heap.size + 1 + 1, 0, none⟩ (.bool true) = wz at *
          have r10 := cell_kept r9 (grownBy_putObj' _ D0 (.deferred none)) (fun r e => by cases e; exact ⟨_, K0, rfl⟩)
          refine ⟨by simp, .inl ⟨_, _, rfl, run_takeDeferred K0, ?_⟩⟩
          refine ⟨.bool true, by simp [results, Tryd.f19, go_sem, r10], rfl, ?_⟩
          exact b10.trans (belowK_b (w := w) (Nat.le_refl _) _ D0 _ _ (by omega) K0 rfl rfl)
end Go.Proofs.YtfgbliglgdkgpaaDoor
