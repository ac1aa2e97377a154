/- GuardTells: the walk. -/
import Derived.Test.YtlanfceilajifaaGreatDoorGu9
import Derived.Sort.CutIn
namespace Go.Proofs.YtlanfceilajifaaGreatDoor
set_option linter.unusedVariables false
set_option linter.unusedSimpArgs false
open Go.RowKit Go.Shelf
attribute [local go_sem] Oper.semAt_some
set_option maxRecDepth 100000
theorem ne_one (a b a' b' : Int) (w : World) : (binOp .neq 54 (.agg #[.int .i64 a', .int .i64 b']) (.agg #[.int .i64 a, .int .i64 b])).run Tryz.prog w = .ok (.bool (!(a == a' && b == b'))) w := by
  have h1 : Tryz.prog.underlying 54 = some (.struct (Tryz.prog.fieldsOf 54)) := by simp [Program.fieldsOf, Tryz.underlying54]
  have h2 := run_equalIn_struct (P := Tryz.prog) w 9999 54 #[.int .i64 a', .int .i64 b'] #[.int .i64 a, .int .i64 b] h1 (by kernel_rfl)
  simp only [binOp]
  simp only [Op.equal, Op.maxDepth, Sem.run_bind, h2]
  by_cases e1 : a' = a
  · subst e1
    by_cases e2 : b' = b
    · subst e2; simp [go_sem]
    · have e3 : ¬ b = b' := fun h => e2 h.symm
      simp [go_sem, e2, e3]
  · have e3 : ¬ a = a' := fun h => e1 h.symm
    simp [go_sem, e1, e3]
set_option maxHeartbeats 8000000 in
theorem guardtells_walk (cm : Int) (l : List Er) (n c : Nat) (hn : l.length = n) (A : Option Addr) (many : Int) (w : World) (hr : Rd w w.heap.size A (erC l)) (hf : ∀ e ∈ l, fitR e) (hnc : n ≤ c ∧ c ≤ 9223372036854775807) (hR : RelsAt w) (hw : WidthsAt w) :
    Calls Tryz.prog 4 #[.agg #[.int .i64 cm, .slice A n c], .int .i64 many] w fun e w' => e = .returned (.bool true) ∧ Below w.heap.size w w' := by
  have HWK := Lib.hid (fun W (h : Below w.heap.size w W) => works16_any W (hR.below h) (hw.below h))
  have hdc := ((Blk.new w 35 #[.int .i64 cm, .slice A n c]).alloc (.cells #[.int .i64 many] 3)).alloc (.cells #[.bool false] 4)
  have z1 := (Boxed.new (w.alloc (.cells #[.int .i64 cm, .slice A n c] 35)) 3 (.int .i64 many)).alloc (.cells #[.bool false] 4)
  have z2 := Boxed.new ((w.alloc (.cells #[.int .i64 cm, .slice A n c] 35)).alloc (.cells #[.int .i64 many] 3)) 4 (.bool false)
  have b0 : Below w.heap.size w (((w.alloc (.cells #[.int .i64 cm, .slice A n c] 35)).alloc (.cells #[.int .i64 many] 3)).alloc (.cells #[.bool false] 4)) := balloc (balloc (balloc (Below.refl _ _) _) _) _
  simp only [World.size_alloc] at z1 z2
  obtain ⟨w0, hw0⟩ : ∃ w0, w0 = ((w.alloc (.cells #[.int .i64 cm, .slice A n c] 35)).alloc (.cells #[.int .i64 many] 3)).alloc (.cells #[.bool false] 4) := ⟨_, rfl⟩
  rw [← hw0] at hdc z1 z2 b0
  have HW0 := Lib.hid hw0
  have HN := Lib.hid hn
  have HF := Lib.hid hf
  have HR := Lib.hid hr
  have d0 := (hdc).cell 0
  have d1 := (hdc).cell 1
  simp only [List.getElem?_toArray, List.getElem?_cons_zero, List.getElem?_cons_succ] at d0 d1
  have Z := Lib.hid (And.intro hdc (And.intro z1 (And.intro z2 b0)))
  clear hw0 hn hf hr hR hw hdc z1 z2 b0
  by_cases h40 : n ≤ 40
  case neg =>
    have d2 : decide ((40 : Int) < n) = true := decide_eq_true (by omega)
    have HWc := Lib.hid (HWK.out w0 Z.out.2.2.2)
    go_enter Tryz.func4, Tryz.ntmps4
    go_upto_region 1 with fail
    rw [← HW0.out]
    go_wp2_with fail
    refine HWc.out.mono ?_
    rintro e w1 ⟨rfl, b1⟩
    have y2 := boxed_below Z.out.2.2.1 b1 Z.out.2.2.1.lt
    have c2 := y2.cell
    have f2 := y2.frozen
    have r2 := (y2.set (.bool true)).cell
    have bz := (bnext Z.out.2.2.2 b1).setCell (p := ⟨w.heap.size + 1 + 1, 0, none⟩) (by show w.heap.size ≤ w.heap.size + 1 + 1; omega) (.bool true)
    clear y2
    go_wp2_with fail
    refine bodyPost_ret (v := .bool true) (by simp [results, Tryz.results4, go_sem, r2]) rfl ⟨rfl, bz⟩
  case pos =>
  have d2 : decide ((40 : Int) < n) = false := decide_eq_false (by omega)
  have HT1 := Lib.hid (gtells_any cm l n c HN.out A w0 ((HR.out.below Z.out.2.2.2).more Z.out.2.2.2.size) HF.out (by omega))
  have hfn : ∀ (lb : Array Value) (w : World), (binOp .eql 50 (.func (.func 53) #[] lb) .nilFunc).run Tryz.prog w = .ok (.bool false) w := fun _ _ => rfl
  refine (callsIn_wide (n := 6)).1 ?_
  refine callsIn_of_wp_marks Tryz.func4 rfl trivial ?_ rfl
  simp only [Tryz.ntmps4, List.size_toArray, List.length_cons, List.length_nil, Nat.reduceAdd, Nat.reduceSub, Array.replicate_succ, Array.replicate_zero, List.push_toArray, List.append_toArray, List.nil_append, List.cons_append]
  gi_upto_region 1 with fail
  rw [← HW0.out]
  gi_wp2_with fail
  refine ⟨trivial, ?_⟩
  refine (callsIn_wide.2 HT1.out).mono ?_
  rintro e w1 ⟨A1, c1, rfl, h1, h2, h3, b1⟩
  obtain ⟨hdc, z1, z2, b0⟩ := Z.out
  replace hdc := hdc.below b1 hdc.lt
  replace z1 := boxed_below z1 b1 z1.lt
  replace z2 := boxed_below z2 b1 z2.lt
  replace b0 := bnext b0 b1
  have HT2 := Lib.hid (reftells_any cm l n c HN.out A w1 ((HR.out.below b0).more b0.size) HF.out (by omega))
  clear d0 d1
  have d0 := (hdc).cell 0
  have d1 := (hdc).cell 1
  simp only [List.getElem?_toArray, List.getElem?_cons_zero, List.getElem?_cons_succ] at d0 d1
  have Z2 := Lib.hid (And.intro hdc (And.intro z1 (And.intro z2 (And.intro h3 b0))))
  clear hdc z1 z2 b0 h3 b1 HT1 Z
  gi_wp2_with fail
  refine ⟨trivial, ?_⟩
  refine (callsIn_wide.2 HT2.out).mono ?_
  rintro e w2 ⟨A2, c2, rfl, k1, k2, k3, b1⟩
  obtain ⟨hdc, z1, z2, h3, b0⟩ := Z2.out
  replace hdc := hdc.below b1 hdc.lt
  replace z1 := boxed_below z1 b1 z1.lt
  replace z2 := boxed_below z2 b1 z2.lt
  replace h3 := (h3.below b1).more b1.size
  replace b0 := bnext b0 b1
  have HT3 := Lib.hid (told_any16 (tlsC cm l) (tlsC cm l) _ _ c1 c2 _ _ rfl rfl A1 A2 w2 h3 k3 (by omega))
  rw [decide_eq_true rfl] at HT3
  clear d0 d1
  have Z3 := Lib.hid (And.intro hdc (And.intro z1 (And.intro z2 b0)))
  clear hdc z1 z2 b0 h3 b1 k3 HT2 Z2 h1 h2 k1 k2
  have hs : (((lfsC cm l).length : Int) != ((lfsC cm l).length : Int)) = false := by simp
  gi_wp2_with fail
  refine ⟨trivial, ?_⟩
  refine (callsIn_wide.2 HT3.out).mono ?_
  rintro e w3 ⟨rfl, nq, rfl⟩
  obtain ⟨hdc, z1, z2, b0⟩ := Z3.out
  have hd := below_drewN (Below.refl w2.heap.size w2) nq
  replace hdc := hdc.below hd hdc.lt
  replace z1 := boxed_below z1 hd z1.lt
  replace z2 := boxed_below z2 hd z2.lt
  replace b0 := bnext b0 hd
  clear HT3 Z3 hd
  generalize w2.drewN nq = w3 at *
  have HT4 := Lib.hid (refleft_any cm l n c HN.out A w3 ((HR.out.below b0).more b0.size) HF.out (by omega))
  have d0 := (hdc).cell 0
  have d1 := (hdc).cell 1
  simp only [List.getElem?_toArray, List.getElem?_cons_zero, List.getElem?_cons_succ] at d0 d1
  have Z4 := Lib.hid (And.intro hdc (And.intro z1 (And.intro z2 b0)))
  clear hdc z1 z2 b0
  gi_wp2_with fail
  refine ⟨trivial, ?_⟩
  refine (callsIn_wide.2 HT4.out).mono ?_
  rintro e w4 ⟨A4, c4, rfl, k1, k2, k3, b1⟩
  clear hs
  have HLZ0 := tls_lfs l
  have HN40 : (lfsC cm l).length ≤ 40 := by
    unfold lfsC
    have h1 := HN.out
    split
    · omega
    · simp
  obtain ⟨hdc, z1, z2, b0⟩ := Z4.out
  have HL5 := Lib.hid (fun W (hb : Below w.heap.size w W) => gleft_any cm l n c HN.out A W ((HR.out.below hb).more hb.size) HF.out (by omega))
  generalize lfsC cm l = lz at *
  have hws : w.heap.size + 1 + 1 < w4.heap.size := Nat.lt_of_lt_of_le z2.lt b1.size
  have y3 := Boxed.new w4 47 (.slice A4 lz.length c4)
  replace b1 := balloc b1 (.cells #[.slice A4 lz.length c4] 47)
  replace hdc := hdc.below b1 hdc.lt
  replace z1 := boxed_below z1 b1 z1.lt
  replace z2 := boxed_below z2 b1 z2.lt
  replace b0 := bnext b0 b1
  replace k3 := k3.alloc (Nat.le_refl _) (.cells #[.slice A4 lz.length c4] 47)
  have HT5 := Lib.hid (HL5.out _ b0)
  clear d0 d1
  have d0 := (hdc).cell 0
  have d1 := (hdc).cell 1
  simp only [List.getElem?_toArray, List.getElem?_cons_zero, List.getElem?_cons_succ] at d0 d1
  have Z5 := Lib.hid (And.intro z1 (And.intro z2 (And.intro y3 (And.intro k3 b0))))
  clear hdc z1 z2 b0 y3 k3 b1 HT4 Z4 HL5 HLZ0
  gi_wp2_with fail
  refine ⟨trivial, ?_⟩
  refine (callsIn_wide.2 HT5.out).mono ?_
  rintro e w2 ⟨lb, rfl, hlf, b1⟩
  obtain ⟨z1, z2, y3, k3, b0⟩ := Z5.out
  clear d0 d1
  obtain ⟨N, hN⟩ : ∃ N, lz.length = N := ⟨_, rfl⟩
  have HNN := Lib.hid hN
  have HLZ := Lib.hid (show lz.length ≤ 1000 by omega)
  have hw4 : w4.heap.size < w2.heap.size := by have := b1.size; simp at this; omega
  have X := Lib.hid (And.intro (boxed_below z1 b1 z1.lt) (And.intro (boxed_below z2 b1 z2.lt) (And.intro (boxed_below y3 b1 y3.lt) (And.intro ((k3.below (b1.mono (by simp))).more (Nat.le_trans (by simp) b1.size)) (And.intro (bnext b0 b1) hlf)))))
  rw [hN] at X HN40 ⊢
  have hz2 := X.out.2.1.lt
  clear z1 z2 y3 k3 b0 b1 hlf HT5 Z5 hN
  gi_wp2_with fail
  refine wpIn_loop_rounds 3 ?_
  have bt0 := Boxed.new w2 3 (.int .i64 0)
  have bb0 : Below w2.heap.size w2 (w2.alloc (.cells #[.int .i64 0] 3)) := balloc (Below.refl _ _) _
  generalize hg0 : w2.alloc (.cells #[.int .i64 0] 3) = Wr0 at *
  clear hg0
  rw [roundsIn_succ]
  have ct0 := bt0.cell
  gi_wp2_with fail
  have bn0 := Boxed.new Wr0 3 (.int .i64 0)
  have bl0 : Below w2.heap.size w2 (Wr0.alloc (.cells #[.int .i64 0] 3)) := balloc bb0 _
  have bu0 := bt0.alloc (.cells #[.int .i64 0] 3)
  have hlt0 := bt0.lt
  have hnl0 := bn0.lt
  have hwr0 := bb0.size
  generalize hgn0 : Wr0.alloc (.cells #[.int .i64 0] 3) = Wn0 at *
  generalize hbn0 : Wr0.heap.size = Bn0 at *
  clear hgn0 ct0
  refine wpIn_rangeFunc_ownG rfl (by omega) (gf := 53) (lb := lb) rfl trivial (enters_of Tryz.func53 (by kernel_rfl) rfl)
    (lf_stops 5 (by omega) Bn0 lz lb Wn0 HLZ.out w2 X.out.2.2.2.2.2 bl0 (by omega) (by omega)) belowK_t (belowK_b (by omega)) (Below.refl _ _) (fun _ => rfl)
    (RI Wn0 Bn0 (fun pre => pre.length = 0 ∨ (pre.length : Int) < many)) (RX Wn0 Bn0 2 (fun pre => 0 < pre.length ∧ many ≤ pre.length ∧ (pre.length = 1 ∨ (pre.length : Int) - 1 < many))) (RI_own hnl0 (Nat.le_refl _)) (RX_own hnl0 (Nat.le_refl _)) ⟨⟨bn0, Below.refl _ _⟩, by simp⟩ ?a10 ?assign0 ?body0 ?done0 ?stop0
  case assign0 =>
    intro lp x W K hK
    simp only [lfEs]
    gi_wp2
    exact hK
  case body0 =>
    rintro lp pre x W ⟨⟨hn, hbW⟩, hp⟩ hlt
    try dsimp only at hp
    have hb2 : Below w2.heap.size w2 W := bl0.trans (hbW.mono (by omega))
    have q1 := (boxed_below X.out.1 hb2 X.out.1.lt).cell
    have z2 := boxed_below X.out.2.1 hb2 X.out.2.1.lt
    have q2 := z2.cell
    have k2 := z2.frozen
    have q3 := (boxed_below X.out.2.2.1 hb2 X.out.2.2.1.lt).cell
    have qt := (boxed_below bu0 hbW (by omega)).cell
    have qn := hn.cell
    have kn := hn.frozen
    have hlt' : pre.length < N := by rw [HNN.out] at hlt; exact hlt
    obtain ⟨y, hy⟩ : ∃ y, lz[pre.length]? = some y := ⟨_, List.getElem?_eq_getElem hlt⟩
    obtain ⟨b, off, hA, hbB, e0, e1⟩ := of_at (X.out.2.2.2.1.below hb2) hy
    subst hA
    have hne := ne_one (lfA lz x) (lfB lz x) y.1 y.2
    have hself : x = pre.length → (lfA lz x = y.1 ∧ lfB lz x = y.2) := fun e => by subst e; simp [lfA, lfB, List.getD, hy]
    have HSF := Lib.hid hself
    obtain ⟨y1, y2⟩ := y
    simp only at e0 e1 hne HSF
    have hi1 : (pre.length : Int) < (N : Int) := by omega
    have hge : decide ((N : Int) ≤ (pre.length : Int)) = false := decide_eq_false (by omega)
    have hp40 : pre.length ≤ 40 := by omega
    clear hy hself hb2 z2
    try dsimp only
    by_cases hx : lfA lz x = y1 ∧ lfB lz x = y2
    · obtain ⟨hx1, hx2⟩ := hx
      rw [hx1, hx2] at hne
      simp only [beq_self_eq_true, Bool.and_self, Bool.not_true] at hne
      generalize lfA lz x = va at *
      generalize lfB lz x = vb at *
      subst hx1 hx2
      have hIn : Boxed (W.setCell ⟨Bn0, 0, none⟩ (.int .i64 (pre ++ [x]).length)) Bn0 3 (.int .i64 (pre ++ [x]).length) := hn.set _
      have hBn : Below Bn0 Wn0 (W.setCell ⟨Bn0, 0, none⟩ (.int .i64 (pre ++ [x]).length)) := hbW.setCell (p := ⟨Bn0, 0, none⟩) (Nat.le_refl _) _
      simp only [List.length_append, List.length_singleton, Int.natCast_add, Int.natCast_one] at hIn hBn
      have qn2 := hIn.cell
      have HIN := Lib.hid hIn
      have HBN := Lib.hid hBn
      clear hIn hBn
      have KF : KeepsFrom Wn0.heap.size W (W.setCell ⟨Bn0, 0, none⟩ (.int .i64 ((pre.length : Int) + 1))) := (KeepsOthers.setCell _ _ _).from _
      have KB : Below Bn0 W (W.setCell ⟨Bn0, 0, none⟩ (.int .i64 ((pre.length : Int) + 1))) := (Below.refl Bn0 W).setCell (p := ⟨Bn0, 0, none⟩) (Nat.le_refl _) _
      have qt2 : (W.setCell ⟨Bn0, 0, none⟩ (.int .i64 ((pre.length : Int) + 1))).cell? ⟨(w2.heap.size), 0, none⟩ = some (.int .i64 0) := (KB.cell (p := ⟨(w2.heap.size), 0, none⟩) (by show (w2.heap.size) < _; omega)).trans qt
      have qm2 : (W.setCell ⟨Bn0, 0, none⟩ (.int .i64 ((pre.length : Int) + 1))).cell? ⟨w.heap.size + 1, 0, none⟩ = some (.int .i64 many) := (KB.cell (p := ⟨w.heap.size + 1, 0, none⟩) (by show w.heap.size + 1 < _; omega)).trans q1
      by_cases hmany : many ≤ (pre.length : Int) + 1
      · gi_wp2
        exact ⟨KF, .inr ⟨rfl, ⟨by simpa using HIN.out, by simpa using HBN.out⟩, by have := len_snoc pre x; dsimp only; omega⟩⟩
      · gi_wp2
        exact ⟨KF, KB, ⟨by simpa using HIN.out, by simpa using HBN.out⟩, by have := len_snoc pre x; dsimp only; omega⟩
    · rw [show ((lfA lz x : Int) == (y1 : Int) && (lfB lz x : Int) == (y2 : Int)) = false by
        rw [Bool.eq_false_iff]
        intro hh
        simp only [Bool.and_eq_true, beq_iff_eq] at hh
        exact hx ⟨by omega, by omega⟩] at hne
      simp only [Bool.not_false] at hne
      have HX := Lib.hid hx
      clear hx
      generalize lfA lz x = va at *
      generalize lfB lz x = vb at *
      gi_wp2
      exact ⟨(KeepsOthers.setCell _ _ _).from _, .inl ⟨rfl, fun h => HX.out (HSF.out (range_last h).1)⟩⟩
  case done0 =>
    rintro D0 ys Wm hD0 rfl ⟨⟨hn, hbW⟩, hp⟩ hK0
    simp only [List.length_range, HNN.out] at hn hp
    have hmm : min ((N : Nat) : Int) (max 1 many) = (N : Nat) := by omega
    obtain ⟨cnt, hcnt⟩ : ∃ cnt, N = cnt := ⟨_, rfl⟩
    rw [hcnt] at hn
    have hcnt0 : (cnt : Int) = min ((N : Nat) : Int) (max 1 many) := by omega
    clear hcnt hmm hp
    have hb2 : Below w2.heap.size w2 Wm := bl0.trans (hbW.mono (by omega))
    have q1 := (boxed_below X.out.1 hb2 X.out.1.lt).cell
    have q3 := (boxed_below X.out.2.2.1 hb2 X.out.2.2.1.lt).cell
    have qt := (boxed_below bu0 hbW (by omega)).cell
    have qn := hn.cell
    have hc1 : (cnt : Int) ≤ (N : Nat) := by omega
    have hc2 : (cnt : Int) ≤ many ∨ (many ≤ 1 ∧ (cnt : Int) ≤ 1) := by omega
    have hc3 : ((N : Nat) : Int) ≤ cnt ∨ (many ≤ cnt ∧ 1 ≤ (cnt : Int)) := by omega
    have hlD0 : D0 < Wm.heap.size := (Array.getElem?_eq_some_iff.1 hK0).1
    clear hcnt0
    gi_upto_region 22 with (fail)
    gi_cut [95] from 75 (fun s wx => s = .bool false ∧ Wm = wx)
    case first =>
      gi_wp2
      all_goals (gi_meet; case rel => exact ⟨rfl, rfl⟩)
    case rest =>
      obtain ⟨rfl, hwc⟩ := hcut
      subst hwc
      gi_wp2_with fail
      have bt1 := Boxed.new Wm 3 (.int .i64 1)
      have bb1 : Below w2.heap.size w2 (Wm.alloc (.cells #[.int .i64 1] 3)) := balloc hb2 _
      have hK0a : (Wm.alloc (.cells #[.int .i64 1] 3)).heap[D0]? = some (.deferred (some [])) := (Below.heap_alloc Wm _ D0 hlD0).trans hK0
      generalize hg1 : Wm.alloc (.cells #[.int .i64 1] 3) = Wr1 at *
      clear hg1 hK0 q1 q3 qt qn hc1 hc2 hc3
      rw [roundsIn_succ]
      have ct1 := bt1.cell
      gi_wp2_with fail
      have bn1 := Boxed.new Wr1 3 (.int .i64 0)
      have bl1 : Below w2.heap.size w2 (Wr1.alloc (.cells #[.int .i64 0] 3)) := balloc bb1 _
      have hK0n : (Wr1.alloc (.cells #[.int .i64 0] 3)).heap[D0]? = some (.deferred (some [])) := (Below.heap_alloc Wr1 _ D0 (Array.getElem?_eq_some_iff.1 hK0a).1).trans hK0a
      have hlD0n := (Array.getElem?_eq_some_iff.1 hK0a).1
      clear hK0a
      have bu1 := bt1.alloc (.cells #[.int .i64 0] 3)
      have hlt1 := bt1.lt
      have hnl1 := bn1.lt
      have hwr1 := bb1.size
      generalize hgn1 : Wr1.alloc (.cells #[.int .i64 0] 3) = Wn1 at *
      generalize hbn1 : Wr1.heap.size = Bn1 at *
      clear hgn1 ct1
      refine wpIn_rangeFunc_ownG rfl (by omega) (gf := 53) (lb := lb) rfl trivial (enters_of Tryz.func53 (by kernel_rfl) rfl)
        (lf_stops 5 (by omega) Bn1 lz lb Wn1 HLZ.out w2 X.out.2.2.2.2.2 bl1 (by omega) (by omega)) belowK_t (belowK_b (by omega)) (Below.refl _ _) (fun _ => rfl)
        (RI Wn1 Bn1 (fun _ => True)) (RX Wn1 Bn1 2 (fun _ => False)) (RI_own hnl1 (Nat.le_refl _)) (RX_own hnl1 (Nat.le_refl _)) ⟨⟨bn1, Below.refl _ _⟩, by simp⟩ ?a11 ?assign1 ?body1 ?done1 ?stop1
      case assign1 =>
        intro lp x W K hK
        simp only [lfEs]
        gi_wp2
        exact hK
      case body1 =>
        rintro lp pre x W ⟨⟨hn, hbW⟩, hp⟩ hlt
        try dsimp only at hp
        have hb2 : Below w2.heap.size w2 W := bl1.trans (hbW.mono (by omega))
        have q1 := (boxed_below X.out.1 hb2 X.out.1.lt).cell
        have z2 := boxed_below X.out.2.1 hb2 X.out.2.1.lt
        have q2 := z2.cell
        have k2 := z2.frozen
        have q3 := (boxed_below X.out.2.2.1 hb2 X.out.2.2.1.lt).cell
        have qt := (boxed_below bu1 hbW (by omega)).cell
        have qn := hn.cell
        have kn := hn.frozen
        have hlt' : pre.length < N := by rw [HNN.out] at hlt; exact hlt
        obtain ⟨y, hy⟩ : ∃ y, lz[pre.length]? = some y := ⟨_, List.getElem?_eq_getElem hlt⟩
        obtain ⟨b, off, hA, hbB, e0, e1⟩ := of_at (X.out.2.2.2.1.below hb2) hy
        subst hA
        have hne := ne_one (lfA lz x) (lfB lz x) y.1 y.2
        have hself : x = pre.length → (lfA lz x = y.1 ∧ lfB lz x = y.2) := fun e => by subst e; simp [lfA, lfB, List.getD, hy]
        have HSF := Lib.hid hself
        obtain ⟨y1, y2⟩ := y
        simp only at e0 e1 hne HSF
        have hi1 : (pre.length : Int) < (N : Int) := by omega
        have hge : decide ((N : Int) ≤ (pre.length : Int)) = false := decide_eq_false (by omega)
        have hp40 : pre.length ≤ 40 := by omega
        clear hy hself hb2 z2
        try dsimp only
        by_cases hx : lfA lz x = y1 ∧ lfB lz x = y2
        · obtain ⟨hx1, hx2⟩ := hx
          rw [hx1, hx2] at hne
          simp only [beq_self_eq_true, Bool.and_self, Bool.not_true] at hne
          generalize lfA lz x = va at *
          generalize lfB lz x = vb at *
          subst hx1 hx2
          have hIn : Boxed (W.setCell ⟨Bn1, 0, none⟩ (.int .i64 (pre ++ [x]).length)) Bn1 3 (.int .i64 (pre ++ [x]).length) := hn.set _
          have hBn : Below Bn1 Wn1 (W.setCell ⟨Bn1, 0, none⟩ (.int .i64 (pre ++ [x]).length)) := hbW.setCell (p := ⟨Bn1, 0, none⟩) (Nat.le_refl _) _
          simp only [List.length_append, List.length_singleton, Int.natCast_add, Int.natCast_one] at hIn hBn
          have qn2 := hIn.cell
          have HIN := Lib.hid hIn
          have HBN := Lib.hid hBn
          clear hIn hBn
          have KF : KeepsFrom Wn1.heap.size W (W.setCell ⟨Bn1, 0, none⟩ (.int .i64 ((pre.length : Int) + 1))) := (KeepsOthers.setCell _ _ _).from _
          have KB : Below Bn1 W (W.setCell ⟨Bn1, 0, none⟩ (.int .i64 ((pre.length : Int) + 1))) := (Below.refl Bn1 W).setCell (p := ⟨Bn1, 0, none⟩) (Nat.le_refl _) _
          have qt2 : (W.setCell ⟨Bn1, 0, none⟩ (.int .i64 ((pre.length : Int) + 1))).cell? ⟨(Wm.heap.size), 0, none⟩ = some (.int .i64 1) := (KB.cell (p := ⟨(Wm.heap.size), 0, none⟩) (by show (Wm.heap.size) < _; omega)).trans qt
          have qm2 : (W.setCell ⟨Bn1, 0, none⟩ (.int .i64 ((pre.length : Int) + 1))).cell? ⟨w.heap.size + 1, 0, none⟩ = some (.int .i64 many) := (KB.cell (p := ⟨w.heap.size + 1, 0, none⟩) (by show w.heap.size + 1 < _; omega)).trans q1
          gi_wp2
          exact ⟨KF, KB, ⟨by simpa using HIN.out, by simpa using HBN.out⟩, trivial⟩
        · rw [show ((lfA lz x : Int) == (y1 : Int) && (lfB lz x : Int) == (y2 : Int)) = false by
            rw [Bool.eq_false_iff]
            intro hh
            simp only [Bool.and_eq_true, beq_iff_eq] at hh
            exact hx ⟨by omega, by omega⟩] at hne
          simp only [Bool.not_false] at hne
          have HX := Lib.hid hx
          clear hx
          generalize lfA lz x = va at *
          generalize lfB lz x = vb at *
          gi_wp2
          exact ⟨(KeepsOthers.setCell _ _ _).from _, .inl ⟨rfl, fun h => HX.out (HSF.out (range_last h).1)⟩⟩
      case done1 =>
        rintro D1 ys We hD1 rfl ⟨⟨hn, hbW⟩, hp⟩ hK1
        simp only [List.length_range, HNN.out] at hn
        have hb2 : Below w2.heap.size w2 We := bl1.trans (hbW.mono (by omega))
        have q1 := (boxed_below X.out.1 hb2 X.out.1.lt).cell
        have q3 := (boxed_below X.out.2.2.1 hb2 X.out.2.2.1.lt).cell
        have qt := (boxed_below bu1 hbW (by omega)).cell
        have qn := hn.cell
        have hlD1 : D1 < We.heap.size := (Array.getElem?_eq_some_iff.1 hK1).1
        have hK0e : We.heap[D0]? = some (.deferred (some [])) := (hbW.block D0 (by omega)).trans hK0n
        have hne : D0 ≠ D1 := by omega
        clear hK0n
        gi_wp2_with fail
        rw [roundsIn_succ]
        have btf := (Boxed.new We 3 (.int .i64 2)).cell
        have bbf : Below We.heap.size We (We.alloc (.cells #[.int .i64 2] 3)) := balloc (Below.refl _ _) _
        generalize hgf : We.alloc (.cells #[.int .i64 2] 3) = Wf at *
        have hb3 := bnext hb2 bbf
        have HF := Lib.hid (And.intro ((bbf.block D0 (by omega)).trans hK0e) ((bbf.block D1 hlD1).trans hK1))
        have hzf := bbf.size
        clear hgf hK0e hK1
        gi_wp2_with (first | (refine ⟨trivial, ?_⟩; gi_at_call 9; refine (callsIn_wide.2 (HWK.out _ (bnext X.out.2.2.2.2.1 hb3))).mono ?_; rintro e w9 ⟨rfl, b9⟩; have z9 := boxed_below X.out.2.1 (bnext hb3 b9) X.out.2.1.lt; have q9 := z9.cell; have k9 := z9.frozen))
        have K1 : w9.heap[D1]? = some (.deferred (some [])) := (b9.block D1 (by omega)).trans HF.out.2
        have K0 : w9.heap[D0]? = some (.deferred (some [])) := (b9.block D0 (by omega)).trans HF.out.1
        have K1' := (KeepsOthers.setCell w9 ⟨w.heap.size + 1 + 1, 0, none⟩ (.bool true)).same D1 _ K1 rfl
        have K0' := (KeepsOthers.setCell w9 ⟨w.heap.size + 1 + 1, 0, none⟩ (.bool true)).same D0 _ K0 rfl
        have r9 := (z9.set (.bool true)).cell
        have b10 : Below w.heap.size w (w9.setCell ⟨w.heap.size + 1 + 1, 0, none⟩ (.bool true)) := (bnext (bnext X.out.2.2.2.2.1 hb3) b9).setCell (p := ⟨w.heap.size + 1 + 1, 0, none⟩) (by show w.heap.size ≤ w.heap.size + 1 + 1; omega) _
        generalize w9.setCell ⟨w.heap.size + 1 + 1, 0, none⟩ (.bool true) = wz at *
        have K0'' : (wz.putObj D1 (.deferred none)).heap[D0]? = some (.deferred (some [])) := by rw [World.putObj_heap_other hne]; exact K0'
        have r10 := cell_kept r9 (grownBy_putObj' _ D1 (.deferred none)) (fun r e => by cases e; exact ⟨_, K1', rfl⟩)
        have r11 := cell_kept r10 (grownBy_putObj' _ D0 (.deferred none)) (fun r e => by cases e; exact ⟨_, K0'', rfl⟩)
        refine ⟨by simp, .inl ⟨_, _, rfl, run_takeDeferred K1', ?_⟩⟩
        refine ⟨by simp, .inl ⟨_, _, rfl, run_takeDeferred K0'', ?_⟩⟩
        refine ⟨.bool true, by simp [results, Tryz.f4, go_sem, r11], rfl, ?_⟩
        exact (b10.trans (belowK_b (w := w) (Nat.le_refl _) _ D1 _ _ (by omega) K1' rfl rfl)).trans (belowK_b (w := w) (Nat.le_refl _) _ D0 _ _ (by omega) K0'' rfl rfl)
      case stop1 =>
        rintro D1 cc pre We hD1 ⟨jj, hjj, rfl⟩ hX hK1
        rcases hX with ⟨_, h⟩ | ⟨_, _, hp⟩
        · exact (h (by simp)).elim
        · exact hp.elim
  case stop0 =>
    rintro D0 cc pre Wm hD0 ⟨jj, hjj, rfl⟩ hX hK0
    rcases hX with ⟨_, h⟩ | ⟨rfl, ⟨hn, hbW⟩, hp⟩
    · exact (h (by simp)).elim
    simp only [List.length_range] at hn hp
    rw [HNN.out] at hjj
    have hcnt0 : (jj : Int) = min ((N : Nat) : Int) (max 1 many) := by omega
    obtain ⟨cnt, rfl⟩ : ∃ cnt, cnt = jj := ⟨_, rfl⟩
    clear hp hjj
    have hb2 : Below w2.heap.size w2 Wm := bl0.trans (hbW.mono (by omega))
    have q1 := (boxed_below X.out.1 hb2 X.out.1.lt).cell
    have q3 := (boxed_below X.out.2.2.1 hb2 X.out.2.2.1.lt).cell
    have qt := (boxed_below bu0 hbW (by omega)).cell
    have qn := hn.cell
    have hc1 : (cnt : Int) ≤ (N : Nat) := by omega
    have hc2 : (cnt : Int) ≤ many ∨ (many ≤ 1 ∧ (cnt : Int) ≤ 1) := by omega
    have hc3 : ((N : Nat) : Int) ≤ cnt ∨ (many ≤ cnt ∧ 1 ≤ (cnt : Int)) := by omega
    have hlD0 : D0 < Wm.heap.size := (Array.getElem?_eq_some_iff.1 hK0).1
    clear hcnt0
    gi_upto_region 22 with (fail)
    gi_cut [95] from 75 (fun s wx => s = .bool false ∧ Wm = wx)
    case first =>
      gi_wp2
      all_goals (gi_meet; case rel => exact ⟨rfl, rfl⟩)
    case rest =>
      obtain ⟨rfl, hwc⟩ := hcut
      subst hwc
      gi_wp2_with fail
      have bt1 := Boxed.new Wm 3 (.int .i64 1)
      have bb1 : Below w2.heap.size w2 (Wm.alloc (.cells #[.int .i64 1] 3)) := balloc hb2 _
      have hK0a : (Wm.alloc (.cells #[.int .i64 1] 3)).heap[D0]? = some (.deferred (some [])) := (Below.heap_alloc Wm _ D0 hlD0).trans hK0
      generalize hg1 : Wm.alloc (.cells #[.int .i64 1] 3) = Wr1 at *
      clear hg1 hK0 q1 q3 qt qn hc1 hc2 hc3
      rw [roundsIn_succ]
      have ct1 := bt1.cell
      gi_wp2_with fail
      have bn1 := Boxed.new Wr1 3 (.int .i64 0)
      have bl1 : Below w2.heap.size w2 (Wr1.alloc (.cells #[.int .i64 0] 3)) := balloc bb1 _
      have hK0n : (Wr1.alloc (.cells #[.int .i64 0] 3)).heap[D0]? = some (.deferred (some [])) := (Below.heap_alloc Wr1 _ D0 (Array.getElem?_eq_some_iff.1 hK0a).1).trans hK0a
      have hlD0n := (Array.getElem?_eq_some_iff.1 hK0a).1
      clear hK0a
      have bu1 := bt1.alloc (.cells #[.int .i64 0] 3)
      have hlt1 := bt1.lt
      have hnl1 := bn1.lt
      have hwr1 := bb1.size
      generalize hgn1 : Wr1.alloc (.cells #[.int .i64 0] 3) = Wn1 at *
      generalize hbn1 : Wr1.heap.size = Bn1 at *
      clear hgn1 ct1
      refine wpIn_rangeFunc_ownG rfl (by omega) (gf := 53) (lb := lb) rfl trivial (enters_of Tryz.func53 (by kernel_rfl) rfl)
        (lf_stops 5 (by omega) Bn1 lz lb Wn1 HLZ.out w2 X.out.2.2.2.2.2 bl1 (by omega) (by omega)) belowK_t (belowK_b (by omega)) (Below.refl _ _) (fun _ => rfl)
        (RI Wn1 Bn1 (fun _ => True)) (RX Wn1 Bn1 2 (fun _ => False)) (RI_own hnl1 (Nat.le_refl _)) (RX_own hnl1 (Nat.le_refl _)) ⟨⟨bn1, Below.refl _ _⟩, by simp⟩ ?b11 ?bssign1 ?bbody1 ?bdone1 ?bstop1
      case bssign1 =>
        intro lp x W K hK
        simp only [lfEs]
        gi_wp2
        exact hK
      case bbody1 =>
        rintro lp pre x W ⟨⟨hn, hbW⟩, hp⟩ hlt
        try dsimp only at hp
        have hb2 : Below w2.heap.size w2 W := bl1.trans (hbW.mono (by omega))
        have q1 := (boxed_below X.out.1 hb2 X.out.1.lt).cell
        have z2 := boxed_below X.out.2.1 hb2 X.out.2.1.lt
        have q2 := z2.cell
        have k2 := z2.frozen
        have q3 := (boxed_below X.out.2.2.1 hb2 X.out.2.2.1.lt).cell
        have qt := (boxed_below bu1 hbW (by omega)).cell
        have qn := hn.cell
        have kn := hn.frozen
        have hlt' : pre.length < N := by rw [HNN.out] at hlt; exact hlt
        obtain ⟨y, hy⟩ : ∃ y, lz[pre.length]? = some y := ⟨_, List.getElem?_eq_getElem hlt⟩
        obtain ⟨b, off, hA, hbB, e0, e1⟩ := of_at (X.out.2.2.2.1.below hb2) hy
        subst hA
        have hne := ne_one (lfA lz x) (lfB lz x) y.1 y.2
        have hself : x = pre.length → (lfA lz x = y.1 ∧ lfB lz x = y.2) := fun e => by subst e; simp [lfA, lfB, List.getD, hy]
        have HSF := Lib.hid hself
        obtain ⟨y1, y2⟩ := y
        simp only at e0 e1 hne HSF
        have hi1 : (pre.length : Int) < (N : Int) := by omega
        have hge : decide ((N : Int) ≤ (pre.length : Int)) = false := decide_eq_false (by omega)
        have hp40 : pre.length ≤ 40 := by omega
        clear hy hself hb2 z2
        try dsimp only
        by_cases hx : lfA lz x = y1 ∧ lfB lz x = y2
        · obtain ⟨hx1, hx2⟩ := hx
          rw [hx1, hx2] at hne
          simp only [beq_self_eq_true, Bool.and_self, Bool.not_true] at hne
          generalize lfA lz x = va at *
          generalize lfB lz x = vb at *
          subst hx1 hx2
          have hIn : Boxed (W.setCell ⟨Bn1, 0, none⟩ (.int .i64 (pre ++ [x]).length)) Bn1 3 (.int .i64 (pre ++ [x]).length) := hn.set _
          have hBn : Below Bn1 Wn1 (W.setCell ⟨Bn1, 0, none⟩ (.int .i64 (pre ++ [x]).length)) := hbW.setCell (p := ⟨Bn1, 0, none⟩) (Nat.le_refl _) _
          simp only [List.length_append, List.length_singleton, Int.natCast_add, Int.natCast_one] at hIn hBn
          have qn2 := hIn.cell
          have HIN := Lib.hid hIn
          have HBN := Lib.hid hBn
          clear hIn hBn
          have KF : KeepsFrom Wn1.heap.size W (W.setCell ⟨Bn1, 0, none⟩ (.int .i64 ((pre.length : Int) + 1))) := (KeepsOthers.setCell _ _ _).from _
          have KB : Below Bn1 W (W.setCell ⟨Bn1, 0, none⟩ (.int .i64 ((pre.length : Int) + 1))) := (Below.refl Bn1 W).setCell (p := ⟨Bn1, 0, none⟩) (Nat.le_refl _) _
          have qt2 : (W.setCell ⟨Bn1, 0, none⟩ (.int .i64 ((pre.length : Int) + 1))).cell? ⟨(Wm.heap.size), 0, none⟩ = some (.int .i64 1) := (KB.cell (p := ⟨(Wm.heap.size), 0, none⟩) (by show (Wm.heap.size) < _; omega)).trans qt
          have qm2 : (W.setCell ⟨Bn1, 0, none⟩ (.int .i64 ((pre.length : Int) + 1))).cell? ⟨w.heap.size + 1, 0, none⟩ = some (.int .i64 many) := (KB.cell (p := ⟨w.heap.size + 1, 0, none⟩) (by show w.heap.size + 1 < _; omega)).trans q1
          gi_wp2
          exact ⟨KF, KB, ⟨by simpa using HIN.out, by simpa using HBN.out⟩, trivial⟩
        · rw [show ((lfA lz x : Int) == (y1 : Int) && (lfB lz x : Int) == (y2 : Int)) = false by
            rw [Bool.eq_false_iff]
            intro hh
            simp only [Bool.and_eq_true, beq_iff_eq] at hh
            exact hx ⟨by omega, by omega⟩] at hne
          simp only [Bool.not_false] at hne
          have HX := Lib.hid hx
          clear hx
          generalize lfA lz x = va at *
          generalize lfB lz x = vb at *
          gi_wp2
          exact ⟨(KeepsOthers.setCell _ _ _).from _, .inl ⟨rfl, fun h => HX.out (HSF.out (range_last h).1)⟩⟩
      case bdone1 =>
        rintro D1 ys We hD1 rfl ⟨⟨hn, hbW⟩, hp⟩ hK1
        simp only [List.length_range, HNN.out] at hn
        have hb2 : Below w2.heap.size w2 We := bl1.trans (hbW.mono (by omega))
        have q1 := (boxed_below X.out.1 hb2 X.out.1.lt).cell
        have q3 := (boxed_below X.out.2.2.1 hb2 X.out.2.2.1.lt).cell
        have qt := (boxed_below bu1 hbW (by omega)).cell
        have qn := hn.cell
        have hlD1 : D1 < We.heap.size := (Array.getElem?_eq_some_iff.1 hK1).1
        have hK0e : We.heap[D0]? = some (.deferred (some [])) := (hbW.block D0 (by omega)).trans hK0n
        have hne : D0 ≠ D1 := by omega
        clear hK0n
        gi_wp2_with fail
        rw [roundsIn_succ]
        have btf := (Boxed.new We 3 (.int .i64 2)).cell
        have bbf : Below We.heap.size We (We.alloc (.cells #[.int .i64 2] 3)) := balloc (Below.refl _ _) _
        generalize hgf : We.alloc (.cells #[.int .i64 2] 3) = Wf at *
        have hb3 := bnext hb2 bbf
        have HF := Lib.hid (And.intro ((bbf.block D0 (by omega)).trans hK0e) ((bbf.block D1 hlD1).trans hK1))
        have hzf := bbf.size
        clear hgf hK0e hK1
        gi_wp2_with (first | (refine ⟨trivial, ?_⟩; gi_at_call 9; refine (callsIn_wide.2 (HWK.out _ (bnext X.out.2.2.2.2.1 hb3))).mono ?_; rintro e w9 ⟨rfl, b9⟩; have z9 := boxed_below X.out.2.1 (bnext hb3 b9) X.out.2.1.lt; have q9 := z9.cell; have k9 := z9.frozen))
        have K1 : w9.heap[D1]? = some (.deferred (some [])) := (b9.block D1 (by omega)).trans HF.out.2
        have K0 : w9.heap[D0]? = some (.deferred (some [])) := (b9.block D0 (by omega)).trans HF.out.1
        have K1' := (KeepsOthers.setCell w9 ⟨w.heap.size + 1 + 1, 0, none⟩ (.bool true)).same D1 _ K1 rfl
        have K0' := (KeepsOthers.setCell w9 ⟨w.heap.size + 1 + 1, 0, none⟩ (.bool true)).same D0 _ K0 rfl
        have r9 := (z9.set (.bool true)).cell
        have b10 : Below w.heap.size w (w9.setCell ⟨w.heap.size + 1 + 1, 0, none⟩ (.bool true)) := (bnext (bnext X.out.2.2.2.2.1 hb3) b9).setCell (p := ⟨w.heap.size + 1 + 1, 0, none⟩) (by show w.heap.size ≤ w.heap.size + 1 + 1; omega) _
        generalize w9.setCell ⟨w.heap.size + 1 + 1, 0, none⟩ (.bool true) = wz at *
        have K0'' : (wz.putObj D1 (.deferred none)).heap[D0]? = some (.deferred (some [])) := by rw [World.putObj_heap_other hne]; exact K0'
        have r10 := cell_kept r9 (grownBy_putObj' _ D1 (.deferred none)) (fun r e => by cases e; exact ⟨_, K1', rfl⟩)
        have r11 := cell_kept r10 (grownBy_putObj' _ D0 (.deferred none)) (fun r e => by cases e; exact ⟨_, K0'', rfl⟩)
        refine ⟨by simp, .inl ⟨_, _, rfl, run_takeDeferred K1', ?_⟩⟩
        refine ⟨by simp, .inl ⟨_, _, rfl, run_takeDeferred K0'', ?_⟩⟩
        refine ⟨.bool true, by simp [results, Tryz.f4, go_sem, r11], rfl, ?_⟩
        exact (b10.trans (belowK_b (w := w) (Nat.le_refl _) _ D1 _ _ (by omega) K1' rfl rfl)).trans (belowK_b (w := w) (Nat.le_refl _) _ D0 _ _ (by omega) K0'' rfl rfl)
      case bstop1 =>
        rintro D1 cc pre We hD1 ⟨jj, hjj, rfl⟩ hX hK1
        rcases hX with ⟨_, h⟩ | ⟨_, _, hp⟩
        · exact (h (by simp)).elim
        · exact hp.elim
end Go.Proofs.YtlanfceilajifaaGreatDoor
