/- OctetEach: the walk. -/
import Derived.Test.YtonjaoabehkecaaDoorOEach
import Derived.Test.YtonjaoabehkecaaDoorWorks3
import Derived.Maps.AppendAt
import Derived.Sort.CutIn
namespace Go.Proofs.YtonjaoabehkecaaDoor
set_option linter.unusedVariables false
set_option linter.unusedSimpArgs false
open Go.RowKit Go.Shelf
attribute [local go_sem] Oper.semAt_some
set_option maxRecDepth 100000

theorem each_pos (l : List UInt8) (k : Int) (h : 0 < eachN l k) : isW k = true ∧ 0 < k.toNat ∧ k.toNat ≤ 4 ∧ k = (k.toNat : Int) ∧ eachN l k = l.length / k.toNat := by
  unfold eachN at h ⊢
  by_cases hk : isW k = true
  · rw [if_pos hk] at h ⊢
    have := isW_cases hk
    exact ⟨hk, by omega, by omega, by omega, rfl⟩
  · rw [if_neg hk] at h
    omega
theorem each_lt (l : List UInt8) (k : Int) (j : Nat) (h : j < eachN l k) : j * k.toNat + k.toNat ≤ l.length := by
  obtain ⟨h1, h2, h3, h4, h5⟩ := each_pos l k (by omega)
  rw [h5] at h
  have h6 := Nat.div_mul_le_self l.length k.toNat
  have h7 := Nat.mul_le_mul_right k.toNat h
  rw [Nat.succ_mul] at h7
  omega
theorem each_le (l : List UInt8) (k : Int) (j : Nat) (h : j ≤ eachN l k) : j * k.toNat ≤ l.length := by
  rcases Nat.eq_zero_or_pos j with rfl | h0
  · simp
  · have := each_lt l k (j - 1) (by omega)
    have h2 : (j - 1) * k.toNat + k.toNat = j * k.toNat := by
      rw [← Nat.succ_mul, Nat.succ_eq_add_one, Nat.sub_add_cancel h0]
    omega
theorem rdF_each (l : List UInt8) (k : Int) (j : Nat) (h : j < eachN l k) : rdF l ((j * k.toNat : Nat) : Int) k = (eachV l k j, 0) := by
  have h1 := each_lt l k j h
  obtain ⟨h2, h3, h4, h5, h6⟩ := each_pos l k (by omega)
  unfold rdF
  rw [if_neg (by simp [h2]), if_neg (by omega), if_neg (by omega), Int.toNat_natCast]
  rfl
theorem rdF_end (l : List UInt8) (k : Int) : ((rdF l ((eachN l k * k.toNat : Nat) : Int) k).2 != 0) = true := by
  unfold rdF
  by_cases hk : isW k = true
  · rw [if_neg (by simp [hk])]
    have hc := isW_cases hk
    have hN : eachN l k = l.length / k.toNat := by simp [eachN, hk]
    have h1 := Nat.lt_div_mul_add (a := l.length) (b := k.toNat) (by omega)
    rw [← hN] at h1
    rw [if_neg (by omega), if_pos (by omega)]
    rfl
  · have hf : isW k = false := by simpa using hk
    rw [if_pos hf]
    rfl

theorem u32_info : (Tryd.prog.info? 22).map (fun i => (i.zero, i.size, i.bytes)) = some (some (.int .u32 0), 1, 4) := by kernel_rfl
/-- the numbers as cells -/
def eachC (l : List UInt8) (k : Int) (j : Nat) : List Value := (List.range j).map (fun i => Value.int .u32 (eachV l k i))
theorem eachC_len (l : List UInt8) (k : Int) (j : Nat) : (eachC l k j).length = j := by simp [eachC]
theorem eachC_succ (l : List UInt8) (k : Int) (j : Nat) : eachC l k (j + 1) = eachC l k j ++ [.int .u32 (eachV l k j)] := by simp [eachC, List.range_succ]

set_option maxHeartbeats 8000000 in
theorem oeach_walk (l : List UInt8) (A : Option Addr) (c : Nat) (k many : Int) (w : World) (hw : WidthsAt w) (hlc : l.length ≤ c) (hcm : c ≤ 9223372036854775807) (hr : Rd w w.heap.size A (l.map b8)) :
    Calls Tryd.prog 6 #[.slice A l.length c, .int .i64 k, .int .i64 many] w fun e w' => e = .returned (.bool true) ∧ Below w.heap.size w w' := by
  obtain ⟨i0, hi0, hz0, hz1, hz2⟩ := info_parts u32_info
  have HW := Lib.hid hw
  have HR := Lib.hid hr
  clear hw hr
  by_cases hl : 100 < l.length
  · go_enter Tryd.func6, Tryd.ntmps6
    go_wp2_with fail
    refine (works_any _ (((HW.out.below (balloc (Below.refl _ _) _)).below (balloc (Below.refl _ _) _)).below (balloc (Below.refl _ _) _))).mono ?_
    rintro e w1 ⟨rfl, b1⟩
    have hB := boxed_below (Boxed.new ((w.alloc (.cells #[.int .i64 k] 3)).alloc (.cells #[.int .i64 many] 3)) 4 (.bool false)) b1 (by simp)
    simp only [World.size_alloc] at hB
    have c1 := hB.cell
    have f1 := hB.frozen
    have d1 := (hB.set (.bool true)).cell
    have b2 := bnext (balloc (balloc (balloc (Below.refl _ w) (.cells #[.int .i64 k] 3)) (.cells #[.int .i64 many] 3)) (.cells #[.bool false] 4)) b1
    go_wp2_with fail
    refine bodyPost_ret (v := .bool true) (by simp [results, Tryd.results6, go_sem, d1]) rfl ⟨rfl, ?_⟩
    exact b2.setCell (p := ⟨w.heap.size + 1 + 1, 0, none⟩) (by simp; omega) _
  · have hN := each_le l k (eachN l k) (Nat.le_refl _)
    have HV := Lib.hid (rdF_each l k)
    have HE := Lib.hid (rdF_end l k)
    have HL := Lib.hid (each_lt l k)
    have HP := Lib.hid (each_pos l k)
    have HM := Lib.hid (each_le l k)
    have hfn : ∀ (lb : Array Value) (w : World), (binOp .eql 44 (.func (.func 31) #[] lb) .nilFunc).run Tryd.prog w = .ok (.bool false) w := fun _ _ => rfl
    refine (callsIn_wide (n := 6)).1 ?_
    refine callsIn_of_wp_marks Tryd.func6 rfl trivial ?_ rfl
    simp only [Tryd.ntmps6, List.size_toArray, List.length_cons, List.length_nil, Nat.reduceAdd, Nat.reduceSub, Array.replicate_succ, Array.replicate_zero, List.push_toArray, List.append_toArray, List.nil_append, List.cons_append]
    gi_wp2_with fail
    have z0 := (((Boxed.new w 3 (.int .i64 k)).alloc (.cells #[.int .i64 many] 3)).alloc (.cells #[.bool false] 4)).alloc (.cells #[.slice none 0 0] 37)
    have z1 := ((Boxed.new (w.alloc (.cells #[.int .i64 k] 3)) 3 (.int .i64 many)).alloc (.cells #[.bool false] 4)).alloc (.cells #[.slice none 0 0] 37)
    have z2 := (Boxed.new ((w.alloc (.cells #[.int .i64 k] 3)).alloc (.cells #[.int .i64 many] 3)) 4 (.bool false)).alloc (.cells #[.slice none 0 0] 37)
    have z3 := Boxed.new (((w.alloc (.cells #[.int .i64 k] 3)).alloc (.cells #[.int .i64 many] 3)).alloc (.cells #[.bool false] 4)) 37 (.slice none 0 0)
    have b0 : Below w.heap.size w ((((w.alloc (.cells #[.int .i64 k] 3)).alloc (.cells #[.int .i64 many] 3)).alloc (.cells #[.bool false] 4)).alloc (.cells #[.slice none 0 0] 37)) := balloc (balloc (balloc (balloc (Below.refl _ _) _) _) _) _
    have s0 : ((((w.alloc (.cells #[.int .i64 k] 3)).alloc (.cells #[.int .i64 many] 3)).alloc (.cells #[.bool false] 4)).alloc (.cells #[.slice none 0 0] 37)).heap.size = w.heap.size + 4 := by simp
    simp only [World.size_alloc] at z1 z2 z3
    generalize hW0 : ((((w.alloc (.cells #[.int .i64 k] 3)).alloc (.cells #[.int .i64 many] 3)).alloc (.cells #[.bool false] 4)).alloc (.cells #[.slice none 0 0] 37)) = W0 at *
    have Z := Lib.hid (And.intro z0 (And.intro z1 (And.intro z2 (And.intro z3 (And.intro b0 s0)))))
    clear z0 z1 z2 z3 b0 s0 hW0
    gi_loopw [8] (fun i wr => ∃ (j : Nat) (v : Value), j ≤ eachN l k ∧ i = .int .i64 ((j * k.toNat : Nat) : Int) ∧ Boxed wr (w.heap.size + 1 + 1 + 1) 37 v ∧ wr.ownsRow (w.heap.size + 1 + 1 + 1) 22 1 v j (eachC l k j) ∧ Below (w.heap.size + 1 + 1 + 1) W0 wr) (fun i _ => l.length + 1 - (intOf i).toNat)
    case atStart => exact ⟨0, _, Nat.zero_le _, by simp, Z.out.2.2.2.1, by simpa [eachC] using World.ownsRow_nil _ _ _ _, Below.refl _ _⟩
    case round =>
      obtain ⟨j, v, hj, rfl, hv, hrow, hb⟩ := hrel
      have y0 := boxed_below Z.out.1 hb (by omega)
      have y1 := boxed_below Z.out.2.1 hb (by omega)
      have y2 := boxed_below Z.out.2.2.1 hb (by omega)
      have hbw : Below w.heap.size w wr := Z.out.2.2.2.2.1.trans (hb.mono (by omega))
      have cv := hv.cell
      have c0 := y0.cell
      have hjl := HM.out j hj
      have hrr := fun at_ => refRead_any l l.length rfl A c w.heap.size wr (HR.out.below hbw) hlc (by omega) at_ k
      by_cases hlt : j < eachN l k
      · obtain ⟨p1, p2, p3, p4, p5⟩ := HP.out (by omega)
        have p6 := HL.out j hlt
        have hrd := hrr ((j * k.toNat : Nat) : Int)
        rw [HV.out j hlt] at hrd
        unfold GivesN at hrd
        have CR := Lib.hid hrd
        have HJ := Lib.hid (show j * k.toNat + k.toNat = (j + 1) * k.toNat by rw [Nat.add_mul, Nat.one_mul])
        have hs := hb.size
        have hs0 := Z.out.2.2.2.2.2
        have hk4 : 0 < k ∧ k ≤ 4 := by omega
        have hsz : w.heap.size + 4 ≤ wr.heap.size := by omega
        have HK := Lib.hid p4
        have HC := Lib.hid (eachC_succ l k j)
        have hj100 : j ≤ 100 := by
          have : j * 1 ≤ j * k.toNat := Nat.mul_le_mul_left j p2
          omega
        clear hrd hrr p4 p5 hs0 p2 p3 p1 HM HL HP HE hN
        generalize j * k.toNat = p at *
        generalize eachV l k j = x at *
        gi_wp2_with (first
          | (refine ⟨trivial, ?_⟩; gi_at_call 13; refine (callsIn_wide.2 CR.out).mono ?_; rintro e w' ⟨rfl, rfl⟩)
          | (gi_at_builtin; refine wpListIn_append_own _ rfl _ _ 37 rfl (w.heap.size + 1 + 1 + 1) 22 i0 (.int .u32 0) 1 4 Tryd.underlying37 hi0 hz0 hz1 hz2 rfl (by decide) _ _ _ rfl (hrow.alloc _) ⟨wr.heap.size, 0, none⟩ 1 1 [.int .u32 x] rfl rfl (cell_one_new _ _ _) (by simp [Value.oneCell']) (by simp only [maxLen]; omega) (by omega) (by simp; omega) ?_; intro v' w1 hown' hgrow _; obtain ⟨g', cap', rfl⟩ := ownsRow_succ hown'; obtain ⟨hv1, hv2, hr2, hk2, hb2⟩ := hv.appended (by decide) hrow (by omega) (Nat.le_refl _) hown' hgrow; have hc1 := hv1.cell; have hf1 := hv1.frozen; have hc2 := (boxed_below y0 hb2 (by omega)).cell; clear c0 cv))
        go_roundw
        case rel => exact ⟨j + 1, _, by omega, by rw [← HJ.out, HK.out]; go_num, hv2, by rw [HC.out]; exact hr2, hb.trans hb2⟩
        case measure => simp [intOf]; omega
      · obtain rfl : j = eachN l k := by omega
        have hrd := hrr ((eachN l k * k.toNat : Nat) : Int)
        have he := HE.out
        have hs := hb.size
        have hs0 := Z.out.2.2.2.2.2
        have hsz : w.heap.size + 4 ≤ wr.heap.size := by omega
        generalize rdF l ((eachN l k * k.toNat : Nat) : Int) k = r at *
        obtain ⟨x, er⟩ := r
        unfold GivesN at hrd
        have CR := Lib.hid hrd
        have HEA := Lib.hid (each_any l A c k wr ((HR.out.below hbw).more hbw.size) (by omega))
        simp only at he
        clear hrd hrr hs0 hs HV HE HM
        generalize eachN l k * k.toNat = p at *
        gi_wp2_with (first
          | (refine ⟨trivial, ?_⟩; gi_at_call 13; refine (callsIn_wide.2 CR.out).mono ?_; rintro e w' ⟨rfl, rfl⟩)
          | (refine ⟨trivial, ?_⟩; gi_at_call 17; refine (callsIn_wide.2 HEA.out).mono ?_; rintro e w2 ⟨lb, rfl, hE, b2⟩))
        have x0 := boxed_below y0 b2 y0.lt
        have x1 := boxed_below y1 b2 y1.lt
        have x2 := boxed_below y2 b2 y2.lt
        have x3 := boxed_below hv b2 hv.lt
        have hrow2 := own_below hrow b2
        have b3 := bnext hbw b2
        have hsz2 : w.heap.size + 4 ≤ w2.heap.size := Nat.le_trans hsz b2.size
        obtain ⟨A', c', rfl, hvc, hvm, hvr⟩ := own_shape hrow2
        have X := Lib.hid (And.intro x0 (And.intro x1 (And.intro x2 (And.intro x3 (And.intro hvr (And.intro b3 hE))))))
        clear y0 y1 y2 hv hrow b2 hsz hb hbw cv c0 x0 x1 x2 x3 hrow2 b3 hE CR HEA hvr
        gi_wp2_with fail
        refine wpIn_loop_rounds 3 ?_
        have bt0 := Boxed.new w2 3 (.int .i64 0)
        have bb0 : Below w2.heap.size w2 (w2.alloc (.cells #[.int .i64 0] 3)) := balloc (Below.refl _ _) _
        generalize hg0 : w2.alloc (.cells #[.int .i64 0] 3) = Wr0 at *
        clear hg0
        rw [roundsIn_succ]
        have ct0 := bt0.cell
        gi_wp2_with fail
        have bn0 := Boxed.new Wr0 3 (.int .i64 0)
        have bl0 : Below w2.heap.size w2 (Wr0.alloc (.cells #[.int .i64 0] 3)) := balloc bb0 _
        have bu0 := bt0.alloc (.cells #[.int .i64 0] 3)
        have hlt0 := bt0.lt
        have hnl0 := bn0.lt
        have hwr0 := bb0.size
        generalize hgn0 : Wr0.alloc (.cells #[.int .i64 0] 3) = Wn0 at *
        generalize hbn0 : Wr0.heap.size = Bn0 at *
        clear hgn0 ct0
        refine wpIn_rangeFunc_ownG rfl (by omega) (gf := 31) (lb := lb) rfl trivial (enters_of Tryd.func31 (by kernel_rfl) rfl)
          (each_stops 5 (by omega) Bn0 l k lb Wn0 (HW.out.below (bnext X.out.2.2.2.2.2.1 bl0)) (by omega) w2 X.out.2.2.2.2.2.2 bl0 (by omega)) belowK_t (belowK_b (by omega)) (Below.refl _ _) (fun _ => rfl)
          (RI Wn0 Bn0 (fun pre => pre.length = 0 ∨ (pre.length : Int) < many)) (RX Wn0 Bn0 4 (fun pre => 0 < pre.length ∧ many ≤ pre.length ∧ (pre.length = 1 ∨ (pre.length : Int) - 1 < many))) (RI_own hnl0 (Nat.le_refl _)) (RX_own hnl0 (Nat.le_refl _)) ⟨⟨bn0, Below.refl _ _⟩, by simp⟩ ?a10 ?assign0 ?body0 ?done0 ?stop0
        case assign0 =>
          intro lp x W K hK
          simp only [eachE]
          gi_wp2
          exact hK
        case body0 =>
          rintro lp pre x W ⟨⟨hn, hbW⟩, hp⟩ hlt
          try dsimp only at hp
          have hb2 : Below w2.heap.size w2 W := bl0.trans (hbW.mono (by omega))
          have q0 := (boxed_below X.out.1 hb2 X.out.1.lt).cell
          have q1 := (boxed_below X.out.2.1 hb2 X.out.2.1.lt).cell
          have z2 := boxed_below X.out.2.2.1 hb2 X.out.2.2.1.lt
          have q2 := z2.cell
          have k2 := z2.frozen
          have q3 := (boxed_below X.out.2.2.2.1 hb2 X.out.2.2.2.1.lt).cell
          have qt := (boxed_below bu0 hbW (by omega)).cell
          have qn := hn.cell
          have kn := hn.frozen
          obtain ⟨b, off, hA, hbB, hcell⟩ := (X.out.2.2.2.2.1.below hb2).at (k := pre.length) (by rw [eachC_len]; exact hlt)
          subst hA
          simp only [eachC, List.getElem_map, List.getElem_range] at hcell
          obtain ⟨p1, p2, p3, p4, p5⟩ := HP.out (by omega)
          have p6 := HL.out pre.length hlt
          have hmb : eachAt k pre.length = (pre.length : Int) * k := by unfold eachAt; rw [p4]; simp
          have hm1 : 0 ≤ (pre.length : Int) * k := by rw [← hmb]; unfold eachAt; omega
          have hm2 : (pre.length : Int) * k ≤ 100 := by rw [← hmb]; unfold eachAt; omega
          have hp100 : pre.length ≤ 100 := by
            have : pre.length * 1 ≤ pre.length * k.toNat := Nat.mul_le_mul_left pre.length p2
            omega
          try dsimp only
          by_cases hx : x = pre.length
          · subst hx
            have hme : (eachAt k pre.length != (pre.length : Int) * k) = false := by simp [hmb]
            have HMB := Lib.hid hmb
            clear hmb p1 p2 p3 p4 p5 p6 hb2 z2
            generalize eachAt k pre.length = ea at *
            have hIn : Boxed (W.setCell ⟨Bn0, 0, none⟩ (.int .i64 (pre ++ [pre.length]).length)) Bn0 3 (.int .i64 (pre ++ [pre.length]).length) := hn.set _
            have hBn : Below Bn0 Wn0 (W.setCell ⟨Bn0, 0, none⟩ (.int .i64 (pre ++ [pre.length]).length)) := hbW.setCell (p := ⟨Bn0, 0, none⟩) (Nat.le_refl _) _
            simp only [List.length_append, List.length_singleton, Int.natCast_add, Int.natCast_one] at hIn hBn
            have qn2 := hIn.cell
            have HIN := Lib.hid hIn
            have HBN := Lib.hid hBn
            clear hIn hBn
            have KF : KeepsFrom Wn0.heap.size W (W.setCell ⟨Bn0, 0, none⟩ (.int .i64 ((pre.length : Int) + 1))) := (KeepsOthers.setCell _ _ _).from _
            have KB : Below Bn0 W (W.setCell ⟨Bn0, 0, none⟩ (.int .i64 ((pre.length : Int) + 1))) := (Below.refl Bn0 W).setCell (p := ⟨Bn0, 0, none⟩) (Nat.le_refl _) _
            have qt2 : (W.setCell ⟨Bn0, 0, none⟩ (.int .i64 ((pre.length : Int) + 1))).cell? ⟨(w2.heap.size), 0, none⟩ = some (.int .i64 0) := (KB.cell (p := ⟨(w2.heap.size), 0, none⟩) (by show (w2.heap.size) < _; omega)).trans qt
            have qm2 : (W.setCell ⟨Bn0, 0, none⟩ (.int .i64 ((pre.length : Int) + 1))).cell? ⟨w.heap.size + 1, 0, none⟩ = some (.int .i64 many) := (KB.cell (p := ⟨w.heap.size + 1, 0, none⟩) (by show w.heap.size + 1 < _; omega)).trans q1
            by_cases hmany : many ≤ (pre.length : Int) + 1
            · gi_wp2
              exact ⟨KF, .inr ⟨rfl, ⟨by simpa using HIN.out, by simpa using HBN.out⟩, by have := len_snoc pre pre.length; dsimp only; omega⟩⟩
            · gi_wp2
              exact ⟨KF, KB, ⟨by simpa using HIN.out, by simpa using HBN.out⟩, by have := len_snoc pre pre.length; dsimp only; omega⟩
          · have hme : (eachAt k x != (pre.length : Int) * k) = true := by
              have h1 : x * k.toNat ≠ pre.length * k.toNat := fun e => hx (Nat.eq_of_mul_eq_mul_right p2 e)
              rw [← hmb]
              unfold eachAt
              simp only [bne_iff_ne, ne_eq]
              omega
            clear hmb p1 p2 p3 p4 p5 p6 hb2
            generalize eachAt k x = ea at *
            gi_wp2
            exact ⟨(KeepsOthers.setCell _ _ _).from _, .inl ⟨rfl, fun h => hx (range_last h).1⟩⟩
        case done0 =>
          rintro D0 ys Wm hD0 rfl ⟨⟨hn, hbW⟩, hp⟩ hK0
          simp only [List.length_range] at hn hp
          have hmm : min ((eachN l k : Nat) : Int) (max 1 many) = (eachN l k : Nat) := by omega
          generalize hcnt : eachN l k = cnt at hn
          have hcnt0 : (cnt : Int) = min ((eachN l k : Nat) : Int) (max 1 many) := by omega
          clear hcnt hmm hp
          have hb2 : Below w2.heap.size w2 Wm := bl0.trans (hbW.mono (by omega))
          have q1 := (boxed_below X.out.2.1 hb2 X.out.2.1.lt).cell
          have q3 := (boxed_below X.out.2.2.2.1 hb2 X.out.2.2.2.1.lt).cell
          have qt := (boxed_below bu0 hbW (by omega)).cell
          have qn := hn.cell
          have hc1 : (cnt : Int) ≤ (eachN l k : Nat) := by omega
          have hc2 : (cnt : Int) ≤ many ∨ (many ≤ 1 ∧ (cnt : Int) ≤ 1) := by omega
          have hc3 : ((eachN l k : Nat) : Int) ≤ cnt ∨ (many ≤ cnt ∧ 1 ≤ (cnt : Int)) := by omega
          have hlD0 : D0 < Wm.heap.size := (Array.getElem?_eq_some_iff.1 hK0).1
          clear hcnt0
          gi_upto_region 24 with (fail)
          gi_cut [100] from 80 (fun s wx => s = .bool false ∧ Wm = wx)
          case first =>
            gi_wp2
            all_goals (gi_meet; case rel => exact ⟨rfl, rfl⟩)
          case rest =>
            obtain ⟨rfl, hwc⟩ := hcut
            subst hwc
            gi_wp2_with fail
            have bt1 := Boxed.new Wm 3 (.int .i64 1)
            have bb1 : Below w2.heap.size w2 (Wm.alloc (.cells #[.int .i64 1] 3)) := balloc hb2 _
            have hK0a : (Wm.alloc (.cells #[.int .i64 1] 3)).heap[D0]? = some (.deferred (some [])) := (Below.heap_alloc Wm _ D0 hlD0).trans hK0
            generalize hg1 : Wm.alloc (.cells #[.int .i64 1] 3) = Wr1 at *
            clear hg1 hK0 q1 q3 qt qn hc1 hc2 hc3
            rw [roundsIn_succ]
            have ct1 := bt1.cell
            gi_wp2_with fail
            have bn1 := Boxed.new Wr1 3 (.int .i64 0)
            have bl1 : Below w2.heap.size w2 (Wr1.alloc (.cells #[.int .i64 0] 3)) := balloc bb1 _
            have hK0n : (Wr1.alloc (.cells #[.int .i64 0] 3)).heap[D0]? = some (.deferred (some [])) := (Below.heap_alloc Wr1 _ D0 (Array.getElem?_eq_some_iff.1 hK0a).1).trans hK0a
            have hlD0n := (Array.getElem?_eq_some_iff.1 hK0a).1
            clear hK0a
            have bu1 := bt1.alloc (.cells #[.int .i64 0] 3)
            have hlt1 := bt1.lt
            have hnl1 := bn1.lt
            have hwr1 := bb1.size
            generalize hgn1 : Wr1.alloc (.cells #[.int .i64 0] 3) = Wn1 at *
            generalize hbn1 : Wr1.heap.size = Bn1 at *
            clear hgn1 ct1
            refine wpIn_rangeFunc_ownG rfl (by omega) (gf := 31) (lb := lb) rfl trivial (enters_of Tryd.func31 (by kernel_rfl) rfl)
              (each_stops 5 (by omega) Bn1 l k lb Wn1 (HW.out.below (bnext X.out.2.2.2.2.2.1 bl1)) (by omega) w2 X.out.2.2.2.2.2.2 bl1 (by omega)) belowK_t (belowK_b (by omega)) (Below.refl _ _) (fun _ => rfl)
              (RI Wn1 Bn1 (fun _ => True)) (RX Wn1 Bn1 4 (fun _ => False)) (RI_own hnl1 (Nat.le_refl _)) (RX_own hnl1 (Nat.le_refl _)) ⟨⟨bn1, Below.refl _ _⟩, by simp⟩ ?a11 ?assign1 ?body1 ?done1 ?stop1
            case assign1 =>
              intro lp x W K hK
              simp only [eachE]
              gi_wp2
              exact hK
            case body1 =>
              rintro lp pre x W ⟨⟨hn, hbW⟩, hp⟩ hlt
              try dsimp only at hp
              have hb2 : Below w2.heap.size w2 W := bl1.trans (hbW.mono (by omega))
              have q0 := (boxed_below X.out.1 hb2 X.out.1.lt).cell
              have q1 := (boxed_below X.out.2.1 hb2 X.out.2.1.lt).cell
              have z2 := boxed_below X.out.2.2.1 hb2 X.out.2.2.1.lt
              have q2 := z2.cell
              have k2 := z2.frozen
              have q3 := (boxed_below X.out.2.2.2.1 hb2 X.out.2.2.2.1.lt).cell
              have qt := (boxed_below bu1 hbW (by omega)).cell
              have qn := hn.cell
              have kn := hn.frozen
              obtain ⟨b, off, hA, hbB, hcell⟩ := (X.out.2.2.2.2.1.below hb2).at (k := pre.length) (by rw [eachC_len]; exact hlt)
              subst hA
              simp only [eachC, List.getElem_map, List.getElem_range] at hcell
              obtain ⟨p1, p2, p3, p4, p5⟩ := HP.out (by omega)
              have p6 := HL.out pre.length hlt
              have hmb : eachAt k pre.length = (pre.length : Int) * k := by unfold eachAt; rw [p4]; simp
              have hm1 : 0 ≤ (pre.length : Int) * k := by rw [← hmb]; unfold eachAt; omega
              have hm2 : (pre.length : Int) * k ≤ 100 := by rw [← hmb]; unfold eachAt; omega
              have hp100 : pre.length ≤ 100 := by
                have : pre.length * 1 ≤ pre.length * k.toNat := Nat.mul_le_mul_left pre.length p2
                omega
              try dsimp only
              by_cases hx : x = pre.length
              · subst hx
                have hme : (eachAt k pre.length != (pre.length : Int) * k) = false := by simp [hmb]
                have HMB := Lib.hid hmb
                clear hmb p1 p2 p3 p4 p5 p6 hb2 z2
                generalize eachAt k pre.length = ea at *
                have hIn : Boxed (W.setCell ⟨Bn1, 0, none⟩ (.int .i64 (pre ++ [pre.length]).length)) Bn1 3 (.int .i64 (pre ++ [pre.length]).length) := hn.set _
                have hBn : Below Bn1 Wn1 (W.setCell ⟨Bn1, 0, none⟩ (.int .i64 (pre ++ [pre.length]).length)) := hbW.setCell (p := ⟨Bn1, 0, none⟩) (Nat.le_refl _) _
                simp only [List.length_append, List.length_singleton, Int.natCast_add, Int.natCast_one] at hIn hBn
                have qn2 := hIn.cell
                have HIN := Lib.hid hIn
                have HBN := Lib.hid hBn
                clear hIn hBn
                have KF : KeepsFrom Wn1.heap.size W (W.setCell ⟨Bn1, 0, none⟩ (.int .i64 ((pre.length : Int) + 1))) := (KeepsOthers.setCell _ _ _).from _
                have KB : Below Bn1 W (W.setCell ⟨Bn1, 0, none⟩ (.int .i64 ((pre.length : Int) + 1))) := (Below.refl Bn1 W).setCell (p := ⟨Bn1, 0, none⟩) (Nat.le_refl _) _
                have qt2 : (W.setCell ⟨Bn1, 0, none⟩ (.int .i64 ((pre.length : Int) + 1))).cell? ⟨(Wm.heap.size), 0, none⟩ = some (.int .i64 1) := (KB.cell (p := ⟨(Wm.heap.size), 0, none⟩) (by show (Wm.heap.size) < _; omega)).trans qt
                have qm2 : (W.setCell ⟨Bn1, 0, none⟩ (.int .i64 ((pre.length : Int) + 1))).cell? ⟨w.heap.size + 1, 0, none⟩ = some (.int .i64 many) := (KB.cell (p := ⟨w.heap.size + 1, 0, none⟩) (by show w.heap.size + 1 < _; omega)).trans q1
                gi_wp2
                exact ⟨KF, KB, ⟨by simpa using HIN.out, by simpa using HBN.out⟩, trivial⟩
              · have hme : (eachAt k x != (pre.length : Int) * k) = true := by
                  have h1 : x * k.toNat ≠ pre.length * k.toNat := fun e => hx (Nat.eq_of_mul_eq_mul_right p2 e)
                  rw [← hmb]
                  unfold eachAt
                  simp only [bne_iff_ne, ne_eq]
                  omega
                clear hmb p1 p2 p3 p4 p5 p6 hb2
                generalize eachAt k x = ea at *
                gi_wp2
                exact ⟨(KeepsOthers.setCell _ _ _).from _, .inl ⟨rfl, fun h => hx (range_last h).1⟩⟩
            case done1 =>
              rintro D1 ys We hD1 rfl ⟨⟨hn, hbW⟩, hp⟩ hK1
              simp only [List.length_range] at hn
              have hb2 : Below w2.heap.size w2 We := bl1.trans (hbW.mono (by omega))
              have q1 := (boxed_below X.out.2.1 hb2 X.out.2.1.lt).cell
              have q3 := (boxed_below X.out.2.2.2.1 hb2 X.out.2.2.2.1.lt).cell
              have qt := (boxed_below bu1 hbW (by omega)).cell
              have qn := hn.cell
              have hlD1 : D1 < We.heap.size := (Array.getElem?_eq_some_iff.1 hK1).1
              have hK0e : We.heap[D0]? = some (.deferred (some [])) := (hbW.block D0 (by omega)).trans hK0n
              have hne : D0 ≠ D1 := by omega
              clear hK0n
              gi_wp2_with fail
              rw [roundsIn_succ]
              have btf := (Boxed.new We 3 (.int .i64 2)).cell
              have bbf : Below We.heap.size We (We.alloc (.cells #[.int .i64 2] 3)) := balloc (Below.refl _ _) _
              generalize hgf : We.alloc (.cells #[.int .i64 2] 3) = Wf at *
              have hb3 := bnext hb2 bbf
              have HF := Lib.hid (And.intro ((bbf.block D0 (by omega)).trans hK0e) ((bbf.block D1 hlD1).trans hK1))
              have hzf := bbf.size
              clear hgf hK0e hK1
              gi_wp2_with (first | (refine ⟨trivial, ?_⟩; gi_at_call 8; refine (callsIn_wide.2 (works_any _ (HW.out.below (bnext X.out.2.2.2.2.2.1 hb3)))).mono ?_; rintro e w9 ⟨rfl, b9⟩; have z9 := boxed_below X.out.2.2.1 (bnext hb3 b9) X.out.2.2.1.lt; have q9 := z9.cell; have k9 := z9.frozen))
              have K1 : w9.heap[D1]? = some (.deferred (some [])) := (b9.block D1 (by omega)).trans HF.out.2
              have K0 : w9.heap[D0]? = some (.deferred (some [])) := (b9.block D0 (by omega)).trans HF.out.1
              have K1' := (KeepsOthers.setCell w9 ⟨w.heap.size + 1 + 1, 0, none⟩ (.bool true)).same D1 _ K1 rfl
              have K0' := (KeepsOthers.setCell w9 ⟨w.heap.size + 1 + 1, 0, none⟩ (.bool true)).same D0 _ K0 rfl
              have r9 := (z9.set (.bool true)).cell
              have b10 : Below w.heap.size w (w9.setCell ⟨w.heap.size + 1 + 1, 0, none⟩ (.bool true)) := (bnext (bnext X.out.2.2.2.2.2.1 hb3) b9).setCell (p := ⟨w.heap.size + 1 + 1, 0, none⟩) (by show w.heap.size ≤ w.heap.size + 1 + 1; omega) _
              generalize w9.setCell ⟨w.heap.size + 1 + 1, 0, none⟩ (.bool true) = wz at *
              have K0'' : (wz.putObj D1 (.deferred none)).heap[D0]? = some (.deferred (some [])) := by rw [World.putObj_heap_other hne]; exact K0'
              have r10 := cell_kept r9 (grownBy_putObj' _ D1 (.deferred none)) (fun r e => by cases e; exact ⟨_, K1', rfl⟩)
              have r11 := cell_kept r10 (grownBy_putObj' _ D0 (.deferred none)) (fun r e => by cases e; exact ⟨_, K0'', rfl⟩)
              refine ⟨by simp, .inl ⟨_, _, rfl, run_takeDeferred K1', ?_⟩⟩
              refine ⟨by simp, .inl ⟨_, _, rfl, run_takeDeferred K0'', ?_⟩⟩
              refine ⟨.bool true, by simp [results, Tryd.f6, go_sem, r11], rfl, ?_⟩
              exact (b10.trans (belowK_b (w := w) (Nat.le_refl _) _ D1 _ _ (by omega) K1' rfl rfl)).trans (belowK_b (w := w) (Nat.le_refl _) _ D0 _ _ (by omega) K0'' rfl rfl)
            case stop1 =>
              rintro D1 cc pre We hD1 ⟨jj, hjj, rfl⟩ hX hK1
              rcases hX with ⟨_, h⟩ | ⟨_, _, hp⟩
              · exact (h (by simp)).elim
              · exact hp.elim
        case stop0 =>
          rintro D0 cc pre Wm hD0 ⟨jj, hjj, rfl⟩ hX hK0
          rcases hX with ⟨_, h⟩ | ⟨rfl, ⟨hn, hbW⟩, hp⟩
          · exact (h (by simp)).elim
          simp only [List.length_range] at hn hp
          have hcnt0 : (jj : Int) = min ((eachN l k : Nat) : Int) (max 1 many) := by omega
          obtain ⟨cnt, rfl⟩ : ∃ cnt, cnt = jj := ⟨_, rfl⟩
          clear hp hjj
          have hb2 : Below w2.heap.size w2 Wm := bl0.trans (hbW.mono (by omega))
          have q1 := (boxed_below X.out.2.1 hb2 X.out.2.1.lt).cell
          have q3 := (boxed_below X.out.2.2.2.1 hb2 X.out.2.2.2.1.lt).cell
          have qt := (boxed_below bu0 hbW (by omega)).cell
          have qn := hn.cell
          have hc1 : (cnt : Int) ≤ (eachN l k : Nat) := by omega
          have hc2 : (cnt : Int) ≤ many ∨ (many ≤ 1 ∧ (cnt : Int) ≤ 1) := by omega
          have hc3 : ((eachN l k : Nat) : Int) ≤ cnt ∨ (many ≤ cnt ∧ 1 ≤ (cnt : Int)) := by omega
          have hlD0 : D0 < Wm.heap.size := (Array.getElem?_eq_some_iff.1 hK0).1
          clear hcnt0
          gi_upto_region 24 with (fail)
          gi_cut [100] from 80 (fun s wx => s = .bool false ∧ Wm = wx)
          case first =>
            gi_wp2
            all_goals (gi_meet; case rel => exact ⟨rfl, rfl⟩)
          case rest =>
            obtain ⟨rfl, hwc⟩ := hcut
            subst hwc
            gi_wp2_with fail
            have bt1 := Boxed.new Wm 3 (.int .i64 1)
            have bb1 : Below w2.heap.size w2 (Wm.alloc (.cells #[.int .i64 1] 3)) := balloc hb2 _
            have hK0a : (Wm.alloc (.cells #[.int .i64 1] 3)).heap[D0]? = some (.deferred (some [])) := (Below.heap_alloc Wm _ D0 hlD0).trans hK0
            generalize hg1 : Wm.alloc (.cells #[.int .i64 1] 3) = Wr1 at *
            clear hg1 hK0 q1 q3 qt qn hc1 hc2 hc3
            rw [roundsIn_succ]
            have ct1 := bt1.cell
            gi_wp2_with fail
            have bn1 := Boxed.new Wr1 3 (.int .i64 0)
            have bl1 : Below w2.heap.size w2 (Wr1.alloc (.cells #[.int .i64 0] 3)) := balloc bb1 _
            have hK0n : (Wr1.alloc (.cells #[.int .i64 0] 3)).heap[D0]? = some (.deferred (some [])) := (Below.heap_alloc Wr1 _ D0 (Array.getElem?_eq_some_iff.1 hK0a).1).trans hK0a
            have hlD0n := (Array.getElem?_eq_some_iff.1 hK0a).1
            clear hK0a
            have bu1 := bt1.alloc (.cells #[.int .i64 0] 3)
            have hlt1 := bt1.lt
            have hnl1 := bn1.lt
            have hwr1 := bb1.size
            generalize hgn1 : Wr1.alloc (.cells #[.int .i64 0] 3) = Wn1 at *
            generalize hbn1 : Wr1.heap.size = Bn1 at *
            clear hgn1 ct1
            refine wpIn_rangeFunc_ownG rfl (by omega) (gf := 31) (lb := lb) rfl trivial (enters_of Tryd.func31 (by kernel_rfl) rfl)
              (each_stops 5 (by omega) Bn1 l k lb Wn1 (HW.out.below (bnext X.out.2.2.2.2.2.1 bl1)) (by omega) w2 X.out.2.2.2.2.2.2 bl1 (by omega)) belowK_t (belowK_b (by omega)) (Below.refl _ _) (fun _ => rfl)
              (RI Wn1 Bn1 (fun _ => True)) (RX Wn1 Bn1 4 (fun _ => False)) (RI_own hnl1 (Nat.le_refl _)) (RX_own hnl1 (Nat.le_refl _)) ⟨⟨bn1, Below.refl _ _⟩, by simp⟩ ?b11 ?bssign1 ?bbody1 ?bdone1 ?bstop1
            case bssign1 =>
              intro lp x W K hK
              simp only [eachE]
              gi_wp2
              exact hK
            case bbody1 =>
              rintro lp pre x W ⟨⟨hn, hbW⟩, hp⟩ hlt
              try dsimp only at hp
              have hb2 : Below w2.heap.size w2 W := bl1.trans (hbW.mono (by omega))
              have q0 := (boxed_below X.out.1 hb2 X.out.1.lt).cell
              have q1 := (boxed_below X.out.2.1 hb2 X.out.2.1.lt).cell
              have z2 := boxed_below X.out.2.2.1 hb2 X.out.2.2.1.lt
              have q2 := z2.cell
              have k2 := z2.frozen
              have q3 := (boxed_below X.out.2.2.2.1 hb2 X.out.2.2.2.1.lt).cell
              have qt := (boxed_below bu1 hbW (by omega)).cell
              have qn := hn.cell
              have kn := hn.frozen
              obtain ⟨b, off, hA, hbB, hcell⟩ := (X.out.2.2.2.2.1.below hb2).at (k := pre.length) (by rw [eachC_len]; exact hlt)
              subst hA
              simp only [eachC, List.getElem_map, List.getElem_range] at hcell
              obtain ⟨p1, p2, p3, p4, p5⟩ := HP.out (by omega)
              have p6 := HL.out pre.length hlt
              have hmb : eachAt k pre.length = (pre.length : Int) * k := by unfold eachAt; rw [p4]; simp
              have hm1 : 0 ≤ (pre.length : Int) * k := by rw [← hmb]; unfold eachAt; omega
              have hm2 : (pre.length : Int) * k ≤ 100 := by rw [← hmb]; unfold eachAt; omega
              have hp100 : pre.length ≤ 100 := by
                have : pre.length * 1 ≤ pre.length * k.toNat := Nat.mul_le_mul_left pre.length p2
                omega
              try dsimp only
              by_cases hx : x = pre.length
              · subst hx
                have hme : (eachAt k pre.length != (pre.length : Int) * k) = false := by simp [hmb]
                have HMB := Lib.hid hmb
                clear hmb p1 p2 p3 p4 p5 p6 hb2 z2
                generalize eachAt k pre.length = ea at *
                have hIn : Boxed (W.setCell ⟨Bn1, 0, none⟩ (.int .i64 (pre ++ [pre.length]).length)) Bn1 3 (.int .i64 (pre ++ [pre.length]).length) := hn.set _
                have hBn : Below Bn1 Wn1 (W.setCell ⟨Bn1, 0, none⟩ (.int .i64 (pre ++ [pre.length]).length)) := hbW.setCell (p := ⟨Bn1, 0, none⟩) (Nat.le_refl _) _
                simp only [List.length_append, List.length_singleton, Int.natCast_add, Int.natCast_one] at hIn hBn
                have qn2 := hIn.cell
                have HIN := Lib.hid hIn
                have HBN := Lib.hid hBn
                clear hIn hBn
                have KF : KeepsFrom Wn1.heap.size W (W.setCell ⟨Bn1, 0, none⟩ (.int .i64 ((pre.length : Int) + 1))) := (KeepsOthers.setCell _ _ _).from _
                have KB : Below Bn1 W (W.setCell ⟨Bn1, 0, none⟩ (.int .i64 ((pre.length : Int) + 1))) := (Below.refl Bn1 W).setCell (p := ⟨Bn1, 0, none⟩) (Nat.le_refl _) _
                have qt2 : (W.setCell ⟨Bn1, 0, none⟩ (.int .i64 ((pre.length : Int) + 1))).cell? ⟨(Wm.heap.size), 0, none⟩ = some (.int .i64 1) := (KB.cell (p := ⟨(Wm.heap.size), 0, none⟩) (by show (Wm.heap.size) < _; omega)).trans qt
                have qm2 : (W.setCell ⟨Bn1, 0, none⟩ (.int .i64 ((pre.length : Int) + 1))).cell? ⟨w.heap.size + 1, 0, none⟩ = some (.int .i64 many) := (KB.cell (p := ⟨w.heap.size + 1, 0, none⟩) (by show w.heap.size + 1 < _; omega)).trans q1
                gi_wp2
                exact ⟨KF, KB, ⟨by simpa using HIN.out, by simpa using HBN.out⟩, trivial⟩
              · have hme : (eachAt k x != (pre.length : Int) * k) = true := by
                  have h1 : x * k.toNat ≠ pre.length * k.toNat := fun e => hx (Nat.eq_of_mul_eq_mul_right p2 e)
                  rw [← hmb]
                  unfold eachAt
                  simp only [bne_iff_ne, ne_eq]
                  omega
                clear hmb p1 p2 p3 p4 p5 p6 hb2
                generalize eachAt k x = ea at *
                gi_wp2
                exact ⟨(KeepsOthers.setCell _ _ _).from _, .inl ⟨rfl, fun h => hx (range_last h).1⟩⟩
            case bdone1 =>
              rintro D1 ys We hD1 rfl ⟨⟨hn, hbW⟩, hp⟩ hK1
              simp only [List.length_range] at hn
              have hb2 : Below w2.heap.size w2 We := bl1.trans (hbW.mono (by omega))
              have q1 := (boxed_below X.out.2.1 hb2 X.out.2.1.lt).cell
              have q3 := (boxed_below X.out.2.2.2.1 hb2 X.out.2.2.2.1.lt).cell
              have qt := (boxed_below bu1 hbW (by omega)).cell
              have qn := hn.cell
              have hlD1 : D1 < We.heap.size := (Array.getElem?_eq_some_iff.1 hK1).1
              have hK0e : We.heap[D0]? = some (.deferred (some [])) := (hbW.block D0 (by omega)).trans hK0n
              have hne : D0 ≠ D1 := by omega
              clear hK0n
              gi_wp2_with fail
              rw [roundsIn_succ]
              have btf := (Boxed.new We 3 (.int .i64 2)).cell
              have bbf : Below We.heap.size We (We.alloc (.cells #[.int .i64 2] 3)) := balloc (Below.refl _ _) _
              generalize hgf : We.alloc (.cells #[.int .i64 2] 3) = Wf at *
              have hb3 := bnext hb2 bbf
              have HF := Lib.hid (And.intro ((bbf.block D0 (by omega)).trans hK0e) ((bbf.block D1 hlD1).trans hK1))
              have hzf := bbf.size
              clear hgf hK0e hK1
              gi_wp2_with (first | (refine ⟨trivial, ?_⟩; gi_at_call 8; refine (callsIn_wide.2 (works_any _ (HW.out.below (bnext X.out.2.2.2.2.2.1 hb3)))).mono ?_; rintro e w9 ⟨rfl, b9⟩; have z9 := boxed_below X.out.2.2.1 (bnext hb3 b9) X.out.2.2.1.lt; have q9 := z9.cell; have k9 := z9.frozen))
              have K1 : w9.heap[D1]? = some (.deferred (some [])) := (b9.block D1 (by omega)).trans HF.out.2
              have K0 : w9.heap[D0]? = some (.deferred (some [])) := (b9.block D0 (by omega)).trans HF.out.1
              have K1' := (KeepsOthers.setCell w9 ⟨w.heap.size + 1 + 1, 0, none⟩ (.bool true)).same D1 _ K1 rfl
              have K0' := (KeepsOthers.setCell w9 ⟨w.heap.size + 1 + 1, 0, none⟩ (.bool true)).same D0 _ K0 rfl
              have r9 := (z9.set (.bool true)).cell
              have b10 : Below w.heap.size w (w9.setCell ⟨w.heap.size + 1 + 1, 0, none⟩ (.bool true)) := (bnext (bnext X.out.2.2.2.2.2.1 hb3) b9).setCell (p := ⟨w.heap.size + 1 + 1, 0, none⟩) (by show w.heap.size ≤ w.heap.size + 1 + 1; omega) _
              generalize w9.setCell ⟨w.heap.size + 1 + 1, 0, none⟩ (.bool true) = wz at *
              have K0'' : (wz.putObj D1 (.deferred none)).heap[D0]? = some (.deferred (some [])) := by rw [World.putObj_heap_other hne]; exact K0'
              have r10 := cell_kept r9 (grownBy_putObj' _ D1 (.deferred none)) (fun r e => by cases e; exact ⟨_, K1', rfl⟩)
              have r11 := cell_kept r10 (grownBy_putObj' _ D0 (.deferred none)) (fun r e => by cases e; exact ⟨_, K0'', rfl⟩)
              refine ⟨by simp, .inl ⟨_, _, rfl, run_takeDeferred K1', ?_⟩⟩
              refine ⟨by simp, .inl ⟨_, _, rfl, run_takeDeferred K0'', ?_⟩⟩
              refine ⟨.bool true, by simp [results, Tryd.f6, go_sem, r11], rfl, ?_⟩
              exact (b10.trans (belowK_b (w := w) (Nat.le_refl _) _ D1 _ _ (by omega) K1' rfl rfl)).trans (belowK_b (w := w) (Nat.le_refl _) _ D0 _ _ (by omega) K0'' rfl rfl)
            case bstop1 =>
              rintro D1 cc pre We hD1 ⟨jj, hjj, rfl⟩ hX hK1
              rcases hX with ⟨_, h⟩ | ⟨_, _, hp⟩
              · exact (h (by simp)).elim
              · exact hp.elim
end Go.Proofs.YtonjaoabehkecaaDoor
