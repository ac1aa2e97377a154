/- PulseRuns: the walk. -/
import Derived.Test.YtlgkjboamfgbeaaDoorPulI
import Derived.Test.YtlgkjboamfgbeaaDoorPulJ
import Derived.Test.YtlgkjboamfgbeaaDoorPulW
import Derived.Test.YtlgkjboamfgbeaaDoorRngQ
namespace Go.Proofs.YtlgkjboamfgbeaaDoor
set_option linter.unusedVariables false
set_option linter.unusedSimpArgs false
open Go.RowKit Go.Shelf
attribute [local go_sem] Oper.semAt_some
set_option maxRecDepth 100000
theorem ne_beat (a b a' b' : Int) (w : World) : (binOp .neq 52 (.agg #[.int .i64 a, .int .i64 b]) (.agg #[.int .i64 a', .int .i64 b'])).run Tryd.prog w = .ok (.bool (!(a == a' && b == b'))) w := by
  have h1 : Tryd.prog.underlying 52 = some (.struct (Tryd.prog.fieldsOf 52)) := by simp [Program.fieldsOf, Tryd.underlying52]
  have h2 := run_equalIn_struct (P := Tryd.prog) w 9999 52 #[.int .i64 a, .int .i64 b] #[.int .i64 a', .int .i64 b'] h1 (by kernel_rfl)
  simp only [binOp]
  simp only [Op.equal, Op.maxDepth, Sem.run_bind, h2]
  by_cases e1 : a = a' <;> by_cases e2 : b = b' <;> simp [go_sem, e1, e2]
theorem RI_st {W1 : World} {Bn : Nat} {p : List Nat → Prop} (hB : Bn < W1.heap.size) : Stable W1.heap.size (RI W1 Bn p) := fun pre X Y h hb => ⟨⟨boxed_below h.1.1 hb hB, h.1.2.trans (hb.mono (by omega))⟩, h.2⟩
theorem RX_st {W1 : World} {Bn id : Nat} {p : List Nat → Prop} (hB : Bn < W1.heap.size) (c : Code) : Stable W1.heap.size (RX W1 Bn id p c) := fun pre X Y h hb => by
  rcases h with h | ⟨h1, h2⟩
  · exact .inl h
  · exact .inr ⟨h1, RI_st hB pre X Y h2 hb⟩
theorem KR.set {lo hi b : Nat} (W : World) (u : Value) (h1 : lo ≤ b) (h2 : b < hi) : KR lo hi W (W.setCell ⟨b, 0, none⟩ u) :=
  ⟨(Below.refl _ _).setCell (p := ⟨b, 0, none⟩) h1 _, fun k hk _ => Below.heap_setCell W ⟨b, 0, none⟩ u k (by show k ≠ b; omega)⟩

set_option maxHeartbeats 8000000 in
theorem pulseruns_walk (p j t h g q s cp : Int) (x : Int × Int × Bool) (many : Int) (m kz : Nat) (Az : Option Addr) (zs : List Int) (hzs : zs.length = m) (A : Option Addr) (n k : Nat) (l : List (Nat × Int)) (hn : l.length = n) (w : World) (hr : Rd w w.heap.size A (plC l)) (hnk : n ≤ k) (hk : k ≤ 9223372036854775807) (hl : ∀ x ∈ l, x.1 < 4294967296) (hw : CapsAt w) (hz : Rd w w.heap.size Az (zs.map i8)) (hmk : m ≤ kz) (hkz : kz ≤ 9223372036854775807) :
    Calls Tryd.prog 7 #[.agg #[.int .i64 p, .int .i64 j, .int .i64 t, .int .i64 h, .int .i64 g, .int .i64 q, .int .i64 s, .int .i64 cp, .slice A n k], .agg #[.int .i64 x.1, .int .i64 x.2.1, .bool x.2.2], .slice Az m kz, .int .i64 many] w fun e w' => e = .returned (.bool true) ∧ Below w.heap.size w w' := by
  have HWK := Lib.hid (fun W (hb : Below w.heap.size w W) => works15_any W (hw.below hb))
  have hC0 := (((Blk.new w 24 #[.int .i64 p, .int .i64 j, .int .i64 t, .int .i64 h, .int .i64 g, .int .i64 q, .int .i64 s, .int .i64 cp, .slice A n k]).alloc (.cells #[.int .i64 x.1, .int .i64 x.2.1, .bool x.2.2] 28)).alloc (.cells #[.int .i64 many] 3)).alloc (.cells #[.bool false] 4)
  have hP0 := ((Blk.new (w.alloc (.cells #[.int .i64 p, .int .i64 j, .int .i64 t, .int .i64 h, .int .i64 g, .int .i64 q, .int .i64 s, .int .i64 cp, .slice A n k] 24)) 28 #[.int .i64 x.1, .int .i64 x.2.1, .bool x.2.2]).alloc (.cells #[.int .i64 many] 3)).alloc (.cells #[.bool false] 4)
  have z1 := (Boxed.new ((w.alloc (.cells #[.int .i64 p, .int .i64 j, .int .i64 t, .int .i64 h, .int .i64 g, .int .i64 q, .int .i64 s, .int .i64 cp, .slice A n k] 24)).alloc (.cells #[.int .i64 x.1, .int .i64 x.2.1, .bool x.2.2] 28)) 3 (.int .i64 many)).alloc (.cells #[.bool false] 4)
  have z2 := Boxed.new (((w.alloc (.cells #[.int .i64 p, .int .i64 j, .int .i64 t, .int .i64 h, .int .i64 g, .int .i64 q, .int .i64 s, .int .i64 cp, .slice A n k] 24)).alloc (.cells #[.int .i64 x.1, .int .i64 x.2.1, .bool x.2.2] 28)).alloc (.cells #[.int .i64 many] 3)) 4 (.bool false)
  have B0 : Below w.heap.size w ((((w.alloc (.cells #[.int .i64 p, .int .i64 j, .int .i64 t, .int .i64 h, .int .i64 g, .int .i64 q, .int .i64 s, .int .i64 cp, .slice A n k] 24)).alloc (.cells #[.int .i64 x.1, .int .i64 x.2.1, .bool x.2.2] 28)).alloc (.cells #[.int .i64 many] 3)).alloc (.cells #[.bool false] 4)) := balloc (balloc (balloc (balloc (Below.refl _ _) _) _) _) _
  simp only [World.size_alloc] at hP0 z1 z2
  have HW := Lib.hid hw
  have HBT := Lib.hid (fun W (hb : Below w.heap.size w W) (hl' : n ≤ 1048576) (hm' : m ≤ 1048576) => beats_any p j t h g q s cp A n k l hn x zs m kz hzs Az W ((hr.below hb).more hb.size) ((hz.below hb).more hb.size) hl' hm')
  have HRB := Lib.hid (fun W (hb : Below w.heap.size w W) (hm' : m ≤ 1000) => rbeats_any p j t h g q s cp A n k l hn x zs m kz hzs Az W ((hr.below hb).more hb.size) ((hz.below hb).more hb.size) hnk hk hl hmk hm')
  obtain ⟨N, hN⟩ : ∃ N, N = btN (okC p j t h g q s cp l) p j q s x zs m := ⟨_, rfl⟩
  rw [← hN] at HRB
  have HNN := Lib.hid hN
  clear hN
  have HFW := Lib.hid (fun W => few15_any p j t h g q s cp A n k W)
  have HL := Lib.hid hl
  clear hw hr hz hl
  -- few or many
  by_cases h20 : n ≤ 20 ∧ m ≤ 30
  case neg =>
    by_cases hn20 : n ≤ 20
    all_goals
      go_enter Tryd.func7, Tryd.ntmps7
      go_wp2_with fail
      refine (HFW.out _).mono ?_
      rintro e w1 ⟨rfl, b1⟩
      first | rw [decide_eq_true hn20] | rw [decide_eq_false hn20]
      have hm30 : 30 < m ∨ ¬ n ≤ 20 := by omega
      have HX := Lib.hid (bnext B0 b1)
      have hB := boxed_below z2 b1 z2.lt
      try (have hm31 : decide ((30 : Int) < m) = true := decide_eq_true (by omega))
      try (have hm32 : decide (30 < m) = true := decide_eq_true (by omega))
      go_wp2_with fail
      refine (HWK.out _ HX.out).mono ?_
      rintro e w2 ⟨rfl, b2⟩
      have hB2 := boxed_below hB b2 hB.lt
      have c1 := hB2.cell
      have f1 := hB2.frozen
      have d1 := (hB2.set (.bool true)).cell
      go_wp2_with fail
      refine bodyPost_ret (v := .bool true) (by simp [results, Tryd.results7, go_sem, d1]) rfl ⟨rfl, ?_⟩
      exact (bnext HX.out b2).setCell (p := ⟨w.heap.size + 1 + 1 + 1, 0, none⟩) (by show w.heap.size ≤ w.heap.size + 1 + 1 + 1; omega) _
  case pos =>
    obtain ⟨hn20, hm30⟩ := h20
    have hmd : decide ((30 : Int) < m) = false := decide_eq_false (by omega)
    have hmd2 : decide (30 < m) = false := decide_eq_false (by omega)
    have hfn : ∀ (lb : Array Value) (w : World), (binOp .eql 49 (.func (.func 39) #[] lb) .nilFunc).run Tryd.prog w = .ok (.bool false) w := fun _ _ => rfl
    refine (callsIn_wide (n := 6)).1 ?_
    refine callsIn_of_wp_marks Tryd.func7 rfl trivial ?_ rfl
    simp only [Tryd.ntmps7, List.size_toArray, List.length_cons, List.length_nil, Nat.reduceAdd, Nat.reduceSub, Array.replicate_succ, Array.replicate_zero, List.push_toArray, List.append_toArray, List.nil_append, List.cons_append]
    gi_wp2_with fail
    refine ⟨trivial, ?_⟩
    refine (callsIn_wide.2 (HFW.out _)).mono ?_
    rintro e w0 ⟨rfl, b0⟩
    rw [decide_eq_true hn20]
    have hC := hC0.below b0 hC0.lt
    have hP := hP0.below b0 hP0.lt
    have y1 := boxed_below z1 b0 z1.lt
    have y2 := boxed_below z2 b0 z2.lt
    have hB := bnext B0 b0
    clear b0 hC0 hP0 z1 z2 B0
    have ck0 := (hC).cell 0
    have ck1 := (hC).cell 1
    have ck2 := (hC).cell 2
    have ck3 := (hC).cell 3
    have ck4 := (hC).cell 4
    have ck5 := (hC).cell 5
    have ck6 := (hC).cell 6
    have ck7 := (hC).cell 7
    have ck8 := (hC).cell 8
    simp only [List.getElem?_toArray, List.getElem?_cons_zero, List.getElem?_cons_succ] at ck0 ck1 ck2 ck3 ck4 ck5 ck6 ck7 ck8
    have cq0 := (hP).cell 0
    have cq1 := (hP).cell 1
    have cq2 := (hP).cell 2
    simp only [List.getElem?_toArray, List.getElem?_cons_zero, List.getElem?_cons_succ] at cq0 cq1 cq2
    gi_wp2_with fail
    refine ⟨trivial, ?_⟩
    refine (callsIn_wide.2 (HRB.out _ hB (by omega))).mono ?_
    rintro e w1 ⟨v, rfl, hown, b1⟩
    have hbv := own_base hown
    obtain ⟨A', c', rfl, hvc, hvm, hvr⟩ := own_shapeN hown
    have hN30 : N ≤ 30 := by rw [HNN.out]; have := btN_le (oc := okC p j t h g q s cp l) (p := p) (j := j) (q := q) (s := s) (x0 := x) (zs := zs) m; omega
    clear hown hbv
    replace hC := (hC.below b1 hC.lt).alloc (.cells #[.slice A' N c'] 46)
    replace hP := (hP.below b1 hP.lt).alloc (.cells #[.slice A' N c'] 46)
    replace y1 := (boxed_below y1 b1 y1.lt).alloc (.cells #[.slice A' N c'] 46)
    replace y2 := (boxed_below y2 b1 y2.lt).alloc (.cells #[.slice A' N c'] 46)
    have y3 := Boxed.new w1 46 (.slice A' N c')
    have hvr1 := (hvr.alloc (Nat.le_refl _) (.cells #[.slice A' N c'] 46)).more (B' := w1.heap.size + 1) (by omega)
    replace hB := balloc (bnext hB b1) (.cells #[.slice A' N c'] 46)
    clear b1 hvr
    clear ck0 ck1 ck2 ck3 ck4 ck5 ck6 ck7 ck8 cq0 cq1 cq2
    have ck0 := (hC).cell 0
    have ck1 := (hC).cell 1
    have ck2 := (hC).cell 2
    have ck3 := (hC).cell 3
    have ck4 := (hC).cell 4
    have ck5 := (hC).cell 5
    have ck6 := (hC).cell 6
    have ck7 := (hC).cell 7
    have ck8 := (hC).cell 8
    simp only [List.getElem?_toArray, List.getElem?_cons_zero, List.getElem?_cons_succ] at ck0 ck1 ck2 ck3 ck4 ck5 ck6 ck7 ck8
    have cq0 := (hP).cell 0
    have cq1 := (hP).cell 1
    have cq2 := (hP).cell 2
    simp only [List.getElem?_toArray, List.getElem?_cons_zero, List.getElem?_cons_succ] at cq0 cq1 cq2
    gi_wp2_with fail
    refine ⟨trivial, ?_⟩
    refine (callsIn_wide.2 (HBT.out _ hB (by omega) (by omega))).mono ?_
    rintro e w2 ⟨lb, rfl, hE, b2⟩
    have hwl : w.heap.size + 4 ≤ w1.heap.size + 1 := by have := y2.lt; simp at this; omega
    have hle12 : w1.heap.size + 1 ≤ w2.heap.size := by have := b2.size; simp at this; omega
    have X := Lib.hid (And.intro (boxed_below y1 b2 y1.lt) (And.intro (boxed_below y2 b2 y2.lt) (And.intro (boxed_below y3 b2 y3.lt) (And.intro (((hvr1.more (by simp)).below b2).more b2.size) (bnext hB b2)))))
    have HST := Lib.hid (fun (Bn : Nat) (V : World) (hb : Below w2.heap.size w2 V) (h1 : w2.heap.size ≤ Bn) (h2 : Bn ≤ V.heap.size) => beats_stops 5 (by omega) Bn (V.heap.size + 2) p j t h g q s cp l HL.out x zs (by omega) lb V w2 (HW.out.below (bnext hB b2)) hE hb h1 h2)
    rw [hzs, ← HNN.out] at HST
    clear hE b2 hC hP y1 y2 y3 hvr1 hB HBT HRB HFW HNN
    clear ck0 ck1 ck2 ck3 ck4 ck5 ck6 ck7 ck8 cq0 cq1 cq2
    gi_wp2_with fail
    -- the turns
    refine wpIn_loop_rounds 3 ?_
    have bt0 := Boxed.new w2 3 (.int .i64 0)
    have bb0 : Below w2.heap.size w2 (w2.alloc (.cells #[.int .i64 0] 3)) := balloc (Below.refl _ _) _
    generalize hg0 : w2.alloc (.cells #[.int .i64 0] 3) = Wr0 at *
    clear hg0
    rw [roundsIn_succ]
    have ct0 := bt0.cell
    gi_wp2_with fail
    have bn0 := Boxed.new Wr0 3 (.int .i64 0)
    have bl0 : Below w2.heap.size w2 (Wr0.alloc (.cells #[.int .i64 0] 3)) := balloc bb0 _
    have bu0 := bt0.alloc (.cells #[.int .i64 0] 3)
    have hlt0 := bt0.lt
    have hnl0 := bn0.lt
    have hwr0 := bb0.size
    generalize hgn0 : Wr0.alloc (.cells #[.int .i64 0] 3) = Wn0 at *
    generalize hbn0 : Wr0.heap.size = Bn0 at *
    clear hgn0 ct0
    refine range_own rfl (by omega) (gf := 39) (lb := lb) rfl trivial (enters_of Tryd.func39 (by kernel_rfl) rfl)
      (HST.out Bn0 Wn0 bl0 (by omega) (by omega)) KR.trans (fun W o _ => KR.put W o (by omega) (by omega)) (Below.refl _ _) (fun _ => rfl)
      (RI Wn0 Bn0 (fun pre => pre.length = 0 ∨ (pre.length : Int) < many)) (RX Wn0 Bn0 2 (fun pre => 0 < pre.length ∧ many ≤ pre.length ∧ (pre.length = 1 ∨ (pre.length : Int) - 1 < many))) (RI_st hnl0) (RX_st hnl0) ⟨⟨bn0, Below.refl _ _⟩, by simp⟩ ?a10 ?assign0 ?body0 ?done0 ?stop0
    case assign0 =>
      intro lp y W K hK
      simp only [btA]
      gi_wp2
      exact hK
    case body0 =>
      rintro lp pre y W ⟨⟨hn, hbW⟩, hp⟩ hlt
      try dsimp only at hp
      have hb2 : Below w2.heap.size w2 W := bl0.trans (hbW.mono (by omega))
      have q1 := (boxed_below X.out.1 hb2 X.out.1.lt).cell
      have z2 := boxed_below X.out.2.1 hb2 X.out.2.1.lt
      have q2 := z2.cell
      have k2 := z2.frozen
      have q3 := (boxed_below X.out.2.2.1 hb2 X.out.2.2.1.lt).cell
      have qt := (boxed_below bu0 hbW (by omega)).cell
      have qn := hn.cell
      have kn := hn.frozen
      obtain ⟨b, off, hA, hbB, hcell⟩ := (X.out.2.2.2.1.below hb2) (by rw [btC_len]; omega)
      subst hA
      have hg2 := btC_get p j q s x zs N pre.length hlt
      have e0 := hcell _ _ hg2.1
      have e1 := hcell _ _ hg2.2
      simp only [← Nat.add_assoc] at e1
      try dsimp only
      have hi1 : (0 : Int) ≤ pre.length ∧ (pre.length : Int) < (N : Int) := by omega
      have hi2 : decide (N ≤ pre.length) = false := by simp; omega
      have hi3 : decide ((N : Int) ≤ pre.length) = false := by simp; omega
      have hsame : y = pre.length → (bvA p j q s x zs y = bvA p j q s x zs pre.length ∧ bvB p j q s x zs y = bvB p j q s x zs pre.length) := fun h => by rw [h]; exact ⟨rfl, rfl⟩
      clear hcell hg2
      generalize bvA p j q s x zs y = ya at *
      generalize bvB p j q s x zs y = yb at *
      generalize bvA p j q s x zs pre.length = va at *
      generalize bvB p j q s x zs pre.length = vb at *
      have HSM := Lib.hid hsame
      clear hsame
      have hNE := ne_beat va vb ya yb
      by_cases hv : ya = va ∧ yb = vb
      · obtain ⟨rfl, rfl⟩ := hv
        simp only [beq_self_eq_true, Bool.and_self, Bool.not_true] at hNE
        have hIn : Boxed (W.setCell ⟨Bn0, 0, none⟩ (.int .i64 (pre ++ [y]).length)) Bn0 3 (.int .i64 (pre ++ [y]).length) := hn.set _
        have hBn : Below Bn0 Wn0 (W.setCell ⟨Bn0, 0, none⟩ (.int .i64 (pre ++ [y]).length)) := hbW.setCell (p := ⟨Bn0, 0, none⟩) (Nat.le_refl _) _
        simp only [List.length_append, List.length_singleton, Int.natCast_add, Int.natCast_one] at hIn hBn
        have qn2 := hIn.cell
        have HIN := Lib.hid hIn
        have HBN := Lib.hid hBn
        clear hIn hBn
        have KF : KeepsFrom Wn0.heap.size W (W.setCell ⟨Bn0, 0, none⟩ (.int .i64 ((pre.length : Int) + 1))) := (KeepsOthers.setCell _ _ _).from _
        have KB : KR Bn0 (Wn0.heap.size + 2) W (W.setCell ⟨Bn0, 0, none⟩ (.int .i64 ((pre.length : Int) + 1))) := KR.set W _ (Nat.le_refl _) (by omega)
        have qt2 : (W.setCell ⟨Bn0, 0, none⟩ (.int .i64 ((pre.length : Int) + 1))).cell? ⟨(w2.heap.size), 0, none⟩ = some (.int .i64 0) := (KB.1.cell (p := ⟨(w2.heap.size), 0, none⟩) (by show (w2.heap.size) < _; omega)).trans qt
        have qm2 : (W.setCell ⟨Bn0, 0, none⟩ (.int .i64 ((pre.length : Int) + 1))).cell? ⟨w.heap.size + 1 + 1, 0, none⟩ = some (.int .i64 many) := (KB.1.cell (p := ⟨w.heap.size + 1 + 1, 0, none⟩) (by show w.heap.size + 1 + 1 < _; omega)).trans q1
        by_cases hmany : many ≤ (pre.length : Int) + 1
        · gi_wp2
          exact ⟨KF, .inr ⟨rfl, ⟨by simpa using HIN.out, by simpa using HBN.out⟩, by have := len_snoc pre y; dsimp only; omega⟩⟩
        · gi_wp2
          exact ⟨KF, KB, ⟨by simpa using HIN.out, by simpa using HBN.out⟩, by have := len_snoc pre y; dsimp only; omega⟩
      · have hne : (va == ya && vb == yb) = false := by
          rw [Bool.eq_false_iff]
          intro hh
          simp only [Bool.and_eq_true, beq_iff_eq] at hh
          exact hv ⟨hh.1.symm, hh.2.symm⟩
        rw [hne] at hNE
        simp only [Bool.not_false] at hNE
        have HV := Lib.hid hv
        clear hv hne
        gi_wp2
        exact ⟨(KeepsOthers.setCell _ _ _).from _, .inl ⟨rfl, fun h => HV.out (HSM.out (range_last h).1)⟩⟩
    case done0 =>
      rintro D0 ys Wm hD0 rfl ⟨⟨hn, hbW⟩, hp⟩ hK0
      simp only [List.length_range] at hn hp
      have hmm : min ((N : Nat) : Int) (max 1 many) = (N : Nat) := by omega
      obtain ⟨cnt, hcnt⟩ : ∃ cnt, cnt = N := ⟨_, rfl⟩
      rw [← hcnt] at hn
      have hcnt0 : (cnt : Int) = min ((N : Nat) : Int) (max 1 many) := by omega
      clear hcnt hmm hp
      have hb2 : Below w2.heap.size w2 Wm := bl0.trans (hbW.mono (by omega))
      have q1 := (boxed_below X.out.1 hb2 X.out.1.lt).cell
      have q3 := (boxed_below X.out.2.2.1 hb2 X.out.2.2.1.lt).cell
      have qt := (boxed_below bu0 hbW (by omega)).cell
      have qn := hn.cell
      have hc1 : (cnt : Int) ≤ (N : Nat) := by omega
      have hc2 : (cnt : Int) ≤ many ∨ (many ≤ 1 ∧ (cnt : Int) ≤ 1) := by omega
      have hc3 : ((N : Nat) : Int) ≤ cnt ∨ (many ≤ cnt ∧ 1 ≤ (cnt : Int)) := by omega
      have hlD0 : D0 < Wm.heap.size := (Array.getElem?_eq_some_iff.1 hK0).1
      clear hcnt0
      gi_upto_region 18 with (fail)
      gi_cut [84] from 64 (fun s wx => s = .bool false ∧ Wm = wx)
      case first =>
        gi_wp2
        all_goals (gi_meet; case rel => exact ⟨rfl, rfl⟩)
      case rest =>
        obtain ⟨rfl, hwc⟩ := hcut
        subst hwc
        gi_wp2_with fail
        have bt1 := Boxed.new Wm 3 (.int .i64 1)
        have bb1 : Below w2.heap.size w2 (Wm.alloc (.cells #[.int .i64 1] 3)) := balloc hb2 _
        have hK0a : (Wm.alloc (.cells #[.int .i64 1] 3)).heap[D0]? = some (.deferred (some [])) := (Below.heap_alloc Wm _ D0 hlD0).trans hK0
        generalize hg1 : Wm.alloc (.cells #[.int .i64 1] 3) = Wr1 at *
        clear hg1 hK0 q1 q3 qt qn hc1 hc2 hc3
        rw [roundsIn_succ]
        have ct1 := bt1.cell
        gi_wp2_with fail
        have bn1 := Boxed.new Wr1 3 (.int .i64 0)
        have bl1 : Below w2.heap.size w2 (Wr1.alloc (.cells #[.int .i64 0] 3)) := balloc bb1 _
        have hK0n : (Wr1.alloc (.cells #[.int .i64 0] 3)).heap[D0]? = some (.deferred (some [])) := (Below.heap_alloc Wr1 _ D0 (Array.getElem?_eq_some_iff.1 hK0a).1).trans hK0a
        have hlD0n := (Array.getElem?_eq_some_iff.1 hK0a).1
        clear hK0a
        have bu1 := bt1.alloc (.cells #[.int .i64 0] 3)
        have hlt1 := bt1.lt
        have hnl1 := bn1.lt
        have hwr1 := bb1.size
        generalize hgn1 : Wr1.alloc (.cells #[.int .i64 0] 3) = Wn1 at *
        generalize hbn1 : Wr1.heap.size = Bn1 at *
        clear hgn1 ct1
        refine range_own rfl (by omega) (gf := 39) (lb := lb) rfl trivial (enters_of Tryd.func39 (by kernel_rfl) rfl)
          (HST.out Bn1 Wn1 bl1 (by omega) (by omega)) KR.trans (fun W o _ => KR.put W o (by omega) (by omega)) (Below.refl _ _) (fun _ => rfl)
          (RI Wn1 Bn1 (fun _ => True)) (RX Wn1 Bn1 2 (fun _ => False)) (RI_st hnl1) (RX_st hnl1) ⟨⟨bn1, Below.refl _ _⟩, by simp⟩ ?a11 ?assign1 ?body1 ?done1 ?stop1
        case assign1 =>
          intro lp y W K hK
          simp only [btA]
          gi_wp2
          exact hK
        case body1 =>
          rintro lp pre y W ⟨⟨hn, hbW⟩, hp⟩ hlt
          try dsimp only at hp
          have hb2 : Below w2.heap.size w2 W := bl1.trans (hbW.mono (by omega))
          have q1 := (boxed_below X.out.1 hb2 X.out.1.lt).cell
          have z2 := boxed_below X.out.2.1 hb2 X.out.2.1.lt
          have q2 := z2.cell
          have k2 := z2.frozen
          have q3 := (boxed_below X.out.2.2.1 hb2 X.out.2.2.1.lt).cell
          have qt := (boxed_below bu1 hbW (by omega)).cell
          have qn := hn.cell
          have kn := hn.frozen
          obtain ⟨b, off, hA, hbB, hcell⟩ := (X.out.2.2.2.1.below hb2) (by rw [btC_len]; omega)
          subst hA
          have hg2 := btC_get p j q s x zs N pre.length hlt
          have e0 := hcell _ _ hg2.1
          have e1 := hcell _ _ hg2.2
          simp only [← Nat.add_assoc] at e1
          try dsimp only
          have hi1 : (0 : Int) ≤ pre.length ∧ (pre.length : Int) < (N : Int) := by omega
          have hi2 : decide (N ≤ pre.length) = false := by simp; omega
          have hi3 : decide ((N : Int) ≤ pre.length) = false := by simp; omega
          have hsame : y = pre.length → (bvA p j q s x zs y = bvA p j q s x zs pre.length ∧ bvB p j q s x zs y = bvB p j q s x zs pre.length) := fun h => by rw [h]; exact ⟨rfl, rfl⟩
          clear hcell hg2
          generalize bvA p j q s x zs y = ya at *
          generalize bvB p j q s x zs y = yb at *
          generalize bvA p j q s x zs pre.length = va at *
          generalize bvB p j q s x zs pre.length = vb at *
          have HSM := Lib.hid hsame
          clear hsame
          have hNE := ne_beat va vb ya yb
          by_cases hv : ya = va ∧ yb = vb
          · obtain ⟨rfl, rfl⟩ := hv
            simp only [beq_self_eq_true, Bool.and_self, Bool.not_true] at hNE
            have hIn : Boxed (W.setCell ⟨Bn1, 0, none⟩ (.int .i64 (pre ++ [y]).length)) Bn1 3 (.int .i64 (pre ++ [y]).length) := hn.set _
            have hBn : Below Bn1 Wn1 (W.setCell ⟨Bn1, 0, none⟩ (.int .i64 (pre ++ [y]).length)) := hbW.setCell (p := ⟨Bn1, 0, none⟩) (Nat.le_refl _) _
            simp only [List.length_append, List.length_singleton, Int.natCast_add, Int.natCast_one] at hIn hBn
            have qn2 := hIn.cell
            have HIN := Lib.hid hIn
            have HBN := Lib.hid hBn
            clear hIn hBn
            have KF : KeepsFrom Wn1.heap.size W (W.setCell ⟨Bn1, 0, none⟩ (.int .i64 ((pre.length : Int) + 1))) := (KeepsOthers.setCell _ _ _).from _
            have KB : KR Bn1 (Wn1.heap.size + 2) W (W.setCell ⟨Bn1, 0, none⟩ (.int .i64 ((pre.length : Int) + 1))) := KR.set W _ (Nat.le_refl _) (by omega)
            have qt2 : (W.setCell ⟨Bn1, 0, none⟩ (.int .i64 ((pre.length : Int) + 1))).cell? ⟨(Wm.heap.size), 0, none⟩ = some (.int .i64 1) := (KB.1.cell (p := ⟨(Wm.heap.size), 0, none⟩) (by show (Wm.heap.size) < _; omega)).trans qt
            have qm2 : (W.setCell ⟨Bn1, 0, none⟩ (.int .i64 ((pre.length : Int) + 1))).cell? ⟨w.heap.size + 1 + 1, 0, none⟩ = some (.int .i64 many) := (KB.1.cell (p := ⟨w.heap.size + 1 + 1, 0, none⟩) (by show w.heap.size + 1 + 1 < _; omega)).trans q1
            gi_wp2
            exact ⟨KF, KB, ⟨by simpa using HIN.out, by simpa using HBN.out⟩, trivial⟩
          · have hne : (va == ya && vb == yb) = false := by
              rw [Bool.eq_false_iff]
              intro hh
              simp only [Bool.and_eq_true, beq_iff_eq] at hh
              exact hv ⟨hh.1.symm, hh.2.symm⟩
            rw [hne] at hNE
            simp only [Bool.not_false] at hNE
            have HV := Lib.hid hv
            clear hv hne
            gi_wp2
            exact ⟨(KeepsOthers.setCell _ _ _).from _, .inl ⟨rfl, fun h => HV.out (HSM.out (range_last h).1)⟩⟩
        case done1 =>
          rintro D1 ys We hD1 rfl ⟨⟨hn, hbW⟩, hp⟩ hK1
          simp only [List.length_range] at hn
          have hb2 : Below w2.heap.size w2 We := bl1.trans (hbW.mono (by omega))
          have q1 := (boxed_below X.out.1 hb2 X.out.1.lt).cell
          have q3 := (boxed_below X.out.2.2.1 hb2 X.out.2.2.1.lt).cell
          have qt := (boxed_below bu1 hbW (by omega)).cell
          have qn := hn.cell
          have hlD1 : D1 < We.heap.size := (Array.getElem?_eq_some_iff.1 hK1).1
          have hK0e : We.heap[D0]? = some (.deferred (some [])) := (hbW.block D0 (by omega)).trans hK0n
          have hne : D0 ≠ D1 := by omega
          clear hK0n
          gi_wp2_with fail
          rw [roundsIn_succ]
          have btf := (Boxed.new We 3 (.int .i64 2)).cell
          have bbf : Below We.heap.size We (We.alloc (.cells #[.int .i64 2] 3)) := balloc (Below.refl _ _) _
          generalize hgf : We.alloc (.cells #[.int .i64 2] 3) = Wf at *
          have hb3 := bnext hb2 bbf
          have HF := Lib.hid (And.intro ((bbf.block D0 (by omega)).trans hK0e) ((bbf.block D1 hlD1).trans hK1))
          have hzf := bbf.size
          clear hgf hK0e hK1
          gi_wp2_with (first | (refine ⟨trivial, ?_⟩; gi_at_call 9; refine (callsIn_wide.2 (HWK.out _ (bnext X.out.2.2.2.2 hb3))).mono ?_; rintro e w9 ⟨rfl, b9⟩; have z9 := boxed_below X.out.2.1 (bnext hb3 b9) X.out.2.1.lt; have q9 := z9.cell; have k9 := z9.frozen))
          have K1 : w9.heap[D1]? = some (.deferred (some [])) := (b9.block D1 (by omega)).trans HF.out.2
          have K0 : w9.heap[D0]? = some (.deferred (some [])) := (b9.block D0 (by omega)).trans HF.out.1
          have K1' := (KeepsOthers.setCell w9 ⟨w.heap.size + 1 + 1 + 1, 0, none⟩ (.bool true)).same D1 _ K1 rfl
          have K0' := (KeepsOthers.setCell w9 ⟨w.heap.size + 1 + 1 + 1, 0, none⟩ (.bool true)).same D0 _ K0 rfl
          have r9 := (z9.set (.bool true)).cell
          have b10 : Below w.heap.size w (w9.setCell ⟨w.heap.size + 1 + 1 + 1, 0, none⟩ (.bool true)) := (bnext (bnext X.out.2.2.2.2 hb3) b9).setCell (p := ⟨w.heap.size + 1 + 1 + 1, 0, none⟩) (by show w.heap.size ≤ w.heap.size + 1 + 1 + 1; omega) _
          generalize w9.setCell ⟨w.heap.size + 1 + 1 + 1, 0, none⟩ (.bool true) = wz at *
          have K0'' : (wz.putObj D1 (.deferred none)).heap[D0]? = some (.deferred (some [])) := by rw [World.putObj_heap_other hne]; exact K0'
          have r10 := cell_kept r9 (grownBy_putObj' _ D1 (.deferred none)) (fun r e => by cases e; exact ⟨_, K1', rfl⟩)
          have r11 := cell_kept r10 (grownBy_putObj' _ D0 (.deferred none)) (fun r e => by cases e; exact ⟨_, K0'', rfl⟩)
          refine ⟨by simp, .inl ⟨_, _, rfl, run_takeDeferred K1', ?_⟩⟩
          refine ⟨by simp, .inl ⟨_, _, rfl, run_takeDeferred K0'', ?_⟩⟩
          refine ⟨.bool true, by simp [results, Tryd.f7, go_sem, r11], rfl, ?_⟩
          exact (b10.trans (belowK_b (w := w) (Nat.le_refl _) _ D1 _ _ (by omega) K1' rfl rfl)).trans (belowK_b (w := w) (Nat.le_refl _) _ D0 _ _ (by omega) K0'' rfl rfl)
        case stop1 =>
          rintro D1 cc pre We hD1 ⟨jj, hjj, rfl⟩ hX hK1
          rcases hX with ⟨_, h⟩ | ⟨_, _, hp⟩
          · exact (h (by simp)).elim
          · exact hp.elim
    case stop0 =>
      rintro D0 cc pre Wm hD0 ⟨jj, hjj, rfl⟩ hX hK0
      rcases hX with ⟨_, h⟩ | ⟨rfl, ⟨hn, hbW⟩, hp⟩
      · exact (h (by simp)).elim
      simp only [List.length_range] at hn hp
      have hcnt0 : (jj : Int) = min ((N : Nat) : Int) (max 1 many) := by omega
      obtain ⟨cnt, rfl⟩ : ∃ cnt, cnt = jj := ⟨_, rfl⟩
      clear hp hjj
      have hb2 : Below w2.heap.size w2 Wm := bl0.trans (hbW.mono (by omega))
      have q1 := (boxed_below X.out.1 hb2 X.out.1.lt).cell
      have q3 := (boxed_below X.out.2.2.1 hb2 X.out.2.2.1.lt).cell
      have qt := (boxed_below bu0 hbW (by omega)).cell
      have qn := hn.cell
      have hc1 : (cnt : Int) ≤ (N : Nat) := by omega
      have hc2 : (cnt : Int) ≤ many ∨ (many ≤ 1 ∧ (cnt : Int) ≤ 1) := by omega
      have hc3 : ((N : Nat) : Int) ≤ cnt ∨ (many ≤ cnt ∧ 1 ≤ (cnt : Int)) := by omega
      have hlD0 : D0 < Wm.heap.size := (Array.getElem?_eq_some_iff.1 hK0).1
      clear hcnt0
      gi_upto_region 18 with (fail)
      gi_cut [84] from 64 (fun s wx => s = .bool false ∧ Wm = wx)
      case first =>
        gi_wp2
        all_goals (gi_meet; case rel => exact ⟨rfl, rfl⟩)
      case rest =>
        obtain ⟨rfl, hwc⟩ := hcut
        subst hwc
        gi_wp2_with fail
        have bt1 := Boxed.new Wm 3 (.int .i64 1)
        have bb1 : Below w2.heap.size w2 (Wm.alloc (.cells #[.int .i64 1] 3)) := balloc hb2 _
        have hK0a : (Wm.alloc (.cells #[.int .i64 1] 3)).heap[D0]? = some (.deferred (some [])) := (Below.heap_alloc Wm _ D0 hlD0).trans hK0
        generalize hg1 : Wm.alloc (.cells #[.int .i64 1] 3) = Wr1 at *
        clear hg1 hK0 q1 q3 qt qn hc1 hc2 hc3
        rw [roundsIn_succ]
        have ct1 := bt1.cell
        gi_wp2_with fail
        have bn1 := Boxed.new Wr1 3 (.int .i64 0)
        have bl1 : Below w2.heap.size w2 (Wr1.alloc (.cells #[.int .i64 0] 3)) := balloc bb1 _
        have hK0n : (Wr1.alloc (.cells #[.int .i64 0] 3)).heap[D0]? = some (.deferred (some [])) := (Below.heap_alloc Wr1 _ D0 (Array.getElem?_eq_some_iff.1 hK0a).1).trans hK0a
        have hlD0n := (Array.getElem?_eq_some_iff.1 hK0a).1
        clear hK0a
        have bu1 := bt1.alloc (.cells #[.int .i64 0] 3)
        have hlt1 := bt1.lt
        have hnl1 := bn1.lt
        have hwr1 := bb1.size
        generalize hgn1 : Wr1.alloc (.cells #[.int .i64 0] 3) = Wn1 at *
        generalize hbn1 : Wr1.heap.size = Bn1 at *
        clear hgn1 ct1
        refine range_own rfl (by omega) (gf := 39) (lb := lb) rfl trivial (enters_of Tryd.func39 (by kernel_rfl) rfl)
          (HST.out Bn1 Wn1 bl1 (by omega) (by omega)) KR.trans (fun W o _ => KR.put W o (by omega) (by omega)) (Below.refl _ _) (fun _ => rfl)
          (RI Wn1 Bn1 (fun _ => True)) (RX Wn1 Bn1 2 (fun _ => False)) (RI_st hnl1) (RX_st hnl1) ⟨⟨bn1, Below.refl _ _⟩, by simp⟩ ?b11 ?bssign1 ?bbody1 ?bdone1 ?bstop1
        case bssign1 =>
          intro lp y W K hK
          simp only [btA]
          gi_wp2
          exact hK
        case bbody1 =>
          rintro lp pre y W ⟨⟨hn, hbW⟩, hp⟩ hlt
          try dsimp only at hp
          have hb2 : Below w2.heap.size w2 W := bl1.trans (hbW.mono (by omega))
          have q1 := (boxed_below X.out.1 hb2 X.out.1.lt).cell
          have z2 := boxed_below X.out.2.1 hb2 X.out.2.1.lt
          have q2 := z2.cell
          have k2 := z2.frozen
          have q3 := (boxed_below X.out.2.2.1 hb2 X.out.2.2.1.lt).cell
          have qt := (boxed_below bu1 hbW (by omega)).cell
          have qn := hn.cell
          have kn := hn.frozen
          obtain ⟨b, off, hA, hbB, hcell⟩ := (X.out.2.2.2.1.below hb2) (by rw [btC_len]; omega)
          subst hA
          have hg2 := btC_get p j q s x zs N pre.length hlt
          have e0 := hcell _ _ hg2.1
          have e1 := hcell _ _ hg2.2
          simp only [← Nat.add_assoc] at e1
          try dsimp only
          have hi1 : (0 : Int) ≤ pre.length ∧ (pre.length : Int) < (N : Int) := by omega
          have hi2 : decide (N ≤ pre.length) = false := by simp; omega
          have hi3 : decide ((N : Int) ≤ pre.length) = false := by simp; omega
          have hsame : y = pre.length → (bvA p j q s x zs y = bvA p j q s x zs pre.length ∧ bvB p j q s x zs y = bvB p j q s x zs pre.length) := fun h => by rw [h]; exact ⟨rfl, rfl⟩
          clear hcell hg2
          generalize bvA p j q s x zs y = ya at *
          generalize bvB p j q s x zs y = yb at *
          generalize bvA p j q s x zs pre.length = va at *
          generalize bvB p j q s x zs pre.length = vb at *
          have HSM := Lib.hid hsame
          clear hsame
          have hNE := ne_beat va vb ya yb
          by_cases hv : ya = va ∧ yb = vb
          · obtain ⟨rfl, rfl⟩ := hv
            simp only [beq_self_eq_true, Bool.and_self, Bool.not_true] at hNE
            have hIn : Boxed (W.setCell ⟨Bn1, 0, none⟩ (.int .i64 (pre ++ [y]).length)) Bn1 3 (.int .i64 (pre ++ [y]).length) := hn.set _
            have hBn : Below Bn1 Wn1 (W.setCell ⟨Bn1, 0, none⟩ (.int .i64 (pre ++ [y]).length)) := hbW.setCell (p := ⟨Bn1, 0, none⟩) (Nat.le_refl _) _
            simp only [List.length_append, List.length_singleton, Int.natCast_add, Int.natCast_one] at hIn hBn
            have qn2 := hIn.cell
            have HIN := Lib.hid hIn
            have HBN := Lib.hid hBn
            clear hIn hBn
            have KF : KeepsFrom Wn1.heap.size W (W.setCell ⟨Bn1, 0, none⟩ (.int .i64 ((pre.length : Int) + 1))) := (KeepsOthers.setCell _ _ _).from _
            have KB : KR Bn1 (Wn1.heap.size + 2) W (W.setCell ⟨Bn1, 0, none⟩ (.int .i64 ((pre.length : Int) + 1))) := KR.set W _ (Nat.le_refl _) (by omega)
            have qt2 : (W.setCell ⟨Bn1, 0, none⟩ (.int .i64 ((pre.length : Int) + 1))).cell? ⟨(Wm.heap.size), 0, none⟩ = some (.int .i64 1) := (KB.1.cell (p := ⟨(Wm.heap.size), 0, none⟩) (by show (Wm.heap.size) < _; omega)).trans qt
            have qm2 : (W.setCell ⟨Bn1, 0, none⟩ (.int .i64 ((pre.length : Int) + 1))).cell? ⟨w.heap.size + 1 + 1, 0, none⟩ = some (.int .i64 many) := (KB.1.cell (p := ⟨w.heap.size + 1 + 1, 0, none⟩) (by show w.heap.size + 1 + 1 < _; omega)).trans q1
            gi_wp2
            exact ⟨KF, KB, ⟨by simpa using HIN.out, by simpa using HBN.out⟩, trivial⟩
          · have hne : (va == ya && vb == yb) = false := by
              rw [Bool.eq_false_iff]
              intro hh
              simp only [Bool.and_eq_true, beq_iff_eq] at hh
              exact hv ⟨hh.1.symm, hh.2.symm⟩
            rw [hne] at hNE
            simp only [Bool.not_false] at hNE
            have HV := Lib.hid hv
            clear hv hne
            gi_wp2
            exact ⟨(KeepsOthers.setCell _ _ _).from _, .inl ⟨rfl, fun h => HV.out (HSM.out (range_last h).1)⟩⟩
        case bdone1 =>
          rintro D1 ys We hD1 rfl ⟨⟨hn, hbW⟩, hp⟩ hK1
          simp only [List.length_range] at hn
          have hb2 : Below w2.heap.size w2 We := bl1.trans (hbW.mono (by omega))
          have q1 := (boxed_below X.out.1 hb2 X.out.1.lt).cell
          have q3 := (boxed_below X.out.2.2.1 hb2 X.out.2.2.1.lt).cell
          have qt := (boxed_below bu1 hbW (by omega)).cell
          have qn := hn.cell
          have hlD1 : D1 < We.heap.size := (Array.getElem?_eq_some_iff.1 hK1).1
          have hK0e : We.heap[D0]? = some (.deferred (some [])) := (hbW.block D0 (by omega)).trans hK0n
          have hne : D0 ≠ D1 := by omega
          clear hK0n
          gi_wp2_with fail
          rw [roundsIn_succ]
          have btf := (Boxed.new We 3 (.int .i64 2)).cell
          have bbf : Below We.heap.size We (We.alloc (.cells #[.int .i64 2] 3)) := balloc (Below.refl _ _) _
          generalize hgf : We.alloc (.cells #[.int .i64 2] 3) = Wf at *
          have hb3 := bnext hb2 bbf
          have HF := Lib.hid (And.intro ((bbf.block D0 (by omega)).trans hK0e) ((bbf.block D1 hlD1).trans hK1))
          have hzf := bbf.size
          clear hgf hK0e hK1
          gi_wp2_with (first | (refine ⟨trivial, ?_⟩; gi_at_call 9; refine (callsIn_wide.2 (HWK.out _ (bnext X.out.2.2.2.2 hb3))).mono ?_; rintro e w9 ⟨rfl, b9⟩; have z9 := boxed_below X.out.2.1 (bnext hb3 b9) X.out.2.1.lt; have q9 := z9.cell; have k9 := z9.frozen))
          have K1 : w9.heap[D1]? = some (.deferred (some [])) := (b9.block D1 (by omega)).trans HF.out.2
          have K0 : w9.heap[D0]? = some (.deferred (some [])) := (b9.block D0 (by omega)).trans HF.out.1
          have K1' := (KeepsOthers.setCell w9 ⟨w.heap.size + 1 + 1 + 1, 0, none⟩ (.bool true)).same D1 _ K1 rfl
          have K0' := (KeepsOthers.setCell w9 ⟨w.heap.size + 1 + 1 + 1, 0, none⟩ (.bool true)).same D0 _ K0 rfl
          have r9 := (z9.set (.bool true)).cell
          have b10 : Below w.heap.size w (w9.setCell ⟨w.heap.size + 1 + 1 + 1, 0, none⟩ (.bool true)) := (bnext (bnext X.out.2.2.2.2 hb3) b9).setCell (p := ⟨w.heap.size + 1 + 1 + 1, 0, none⟩) (by show w.heap.size ≤ w.heap.size + 1 + 1 + 1; omega) _
          generalize w9.setCell ⟨w.heap.size + 1 + 1 + 1, 0, none⟩ (.bool true) = wz at *
          have K0'' : (wz.putObj D1 (.deferred none)).heap[D0]? = some (.deferred (some [])) := by rw [World.putObj_heap_other hne]; exact K0'
          have r10 := cell_kept r9 (grownBy_putObj' _ D1 (.deferred none)) (fun r e => by cases e; exact ⟨_, K1', rfl⟩)
          have r11 := cell_kept r10 (grownBy_putObj' _ D0 (.deferred none)) (fun r e => by cases e; exact ⟨_, K0'', rfl⟩)
          refine ⟨by simp, .inl ⟨_, _, rfl, run_takeDeferred K1', ?_⟩⟩
          refine ⟨by simp, .inl ⟨_, _, rfl, run_takeDeferred K0'', ?_⟩⟩
          refine ⟨.bool true, by simp [results, Tryd.f7, go_sem, r11], rfl, ?_⟩
          exact (b10.trans (belowK_b (w := w) (Nat.le_refl _) _ D1 _ _ (by omega) K1' rfl rfl)).trans (belowK_b (w := w) (Nat.le_refl _) _ D0 _ _ (by omega) K0'' rfl rfl)
        case bstop1 =>
          rintro D1 cc pre We hD1 ⟨jj, hjj, rfl⟩ hX hK1
          rcases hX with ⟨_, h⟩ | ⟨_, _, hp⟩
          · exact (h (by simp)).elim
          · exact hp.elim
end Go.Proofs.YtlgkjboamfgbeaaDoor
