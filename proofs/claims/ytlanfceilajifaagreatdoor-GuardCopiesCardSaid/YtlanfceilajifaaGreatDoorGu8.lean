/- guard: the document's Tells and Left. -/
import Derived.Test.YtlanfceilajifaaGreatDoorGu7
import Derived.Maps.AppendAt
import Derived.Deep.AppendLies
import Derived.Deep.RegionLaw
namespace Go.Proofs.YtlanfceilajifaaGreatDoor
set_option linter.unusedVariables false
set_option linter.unusedSimpArgs false
open Go.RowKit
set_option maxRecDepth 100000
set_option maxHeartbeats 4000000 in
theorem reftells_any (cm : Int) (l : List Er) (n c : Nat) (hn : l.length = n) (A : Option Addr) (w : World) (hr : Rd w w.heap.size A (erC l)) (hf : ∀ e ∈ l, fitR e) (hn3 : n ≤ 1000) :
    Calls Tryz.prog 16 #[.agg #[.int .i64 cm, .slice A n c]] w (TellsP cm l w) := by
  obtain ⟨i0, hi0, hz0, hz1, hz2⟩ := info_parts tl_info
  have B1 : Below w.heap.size w (w.alloc (.cells #[.int .i64 cm, .slice A n c] 35)) := balloc (Below.refl _ _) _
  have yd := Blk.new w 35 #[.int .i64 cm, .slice A n c]
  have hs1 : (w.alloc (.cells #[.int .i64 cm, .slice A n c] 35)).heap.size = w.heap.size + 1 := by simp
  obtain ⟨w1, hw1⟩ : ∃ w1, w1 = w.alloc (.cells #[.int .i64 cm, .slice A n c] 35) := ⟨_, rfl⟩
  rw [← hw1] at B1 yd hs1
  have HW1 := Lib.hid hw1
  have HS1 := Lib.hid hs1
  have HN := Lib.hid hn
  have HF := Lib.hid hf
  have HR := Lib.hid (hr.below B1)
  have HB1 := Lib.hid B1
  have YD := Lib.hid yd
  clear hw1 hs1 hn hf hr B1
  by_cases h2 : cm = 2
  case neg =>
    have d1 : (cm == 2) = false := by simpa using h2
    have H2 := Lib.hid h2
    have d0 := (yd).cell 0
    have d1 := (yd).cell 1
    simp only [List.getElem?_toArray, List.getElem?_cons_zero, List.getElem?_cons_succ] at d0 d1
    clear h2 yd
    go_enter Tryz.func16, Tryz.ntmps16
    go_wp2_with fail
    rw [← HW1.out]
    go_loopw [4, 5, 6] (fun ov nv iv wr => ov = .slice none 0 0 ∧ nv = .int .i64 0 ∧ iv = .int .i64 0 ∧ w1 = wr) (fun _ _ _ _ => 0)
    case atStart => exact ⟨rfl, rfl, rfl, rfl⟩
    case round =>
      obtain ⟨rfl, rfl, rfl, rfl⟩ := hrel
      have e1 := Lib.hid (show tlsC cm l = [] from if_neg H2.out)
      have e2 := Lib.hid (show lfsC cm l = [] from if_neg H2.out)
      by_cases h0 : 0 < n
      case pos =>
        have d2 : decide ((0 : Int) < (n : Int)) = true := by simp; omega
        go_wp2_with fail
        go_ret2
        exact ⟨none, 0, by rw [e1.out, e2.out]; rfl, by rw [e1.out]; simp, by omega, by rw [e1.out]; exact Rd.nil, HB1.out⟩
      case neg =>
        have d2 : decide ((0 : Int) < (n : Int)) = false := by simp; omega
        go_wp2_with fail
        go_ret2
        exact ⟨none, 0, by rw [e1.out, e2.out]; rfl, by rw [e1.out]; simp, by omega, by rw [e1.out]; exact Rd.nil, HB1.out⟩
  subst h2
  clear yd
  go_enter Tryz.func16, Tryz.ntmps16
  go_wp2_with fail
  rw [← HW1.out]
  go_loopw [4, 5, 6] (fun ov nv iv wr => ∃ j : Nat, j ≤ n ∧ iv = .int .i64 j ∧ nv = .int .i64 (lfs (l.take j)).length ∧ Hid (wr.ownsRow w1.heap.size 93 3 ov (tls (l.take j)).length (tlC (tls (l.take j)))) ∧ Hid (Below w1.heap.size w1 wr)) (fun _ _ iv _ => n - (intOf iv).toNat)
  case atStart => exact ⟨0, Nat.zero_le _, rfl, rfl, Lib.hid (World.ownsRow_nil _ _ _ _), Lib.hid (Below.refl _ _)⟩
  case round =>
    obtain ⟨j, hj, rfl, rfl, HO, HB⟩ := hrel
    have yd := YD.out.below HB.out YD.out.lt
    have d0 := (yd).cell 0
    have d1 := (yd).cell 1
    simp only [List.getElem?_toArray, List.getElem?_cons_zero, List.getElem?_cons_succ] at d0 d1
    by_cases hlt : j < n
    case neg =>
      obtain rfl : j = n := by omega
      have d2 : decide ((j : Int) < (j : Int)) = false := by simp
      obtain ⟨A4, c4, hv, k1, k2, k3, k4⟩ := own_row HO.out
      subst hv
      have e1 : tls (l.take j) = tlsC 2 l := by
        rw [List.take_of_length_le (by rw [HN.out]; exact Nat.le_refl _)]
        rfl
      have e2 : lfs (l.take j) = lfsC 2 l := by
        rw [List.take_of_length_le (by rw [HN.out]; exact Nat.le_refl _)]
        rfl
      rw [e1] at k1 k3
      have KK := Lib.hid (And.intro k1 (And.intro k2 k3))
      rw [e2]
      rw [e1]
      clear e1 e2 k1 k2 k3 k4 yd
      go_wp2_with fail
      go_ret2
      exact ⟨A4, c4, rfl, KK.out.1, by have := KK.out.2.1; unfold maxLen at this; omega, KK.out.2.2, HB1.out.trans (HB.out.mono HB1.out.size)⟩
    case pos =>
    have d2 : decide ((j : Int) < (n : Int)) = true := by simp; omega
    obtain ⟨x, hx⟩ : ∃ x, l[j]? = some x := ⟨l[j]'(by rw [HN.out]; exact hlt), List.getElem?_eq_getElem _⟩
    obtain ⟨b, off, hA, hbb, q0, q1, q2, q3, q4, q5⟩ := er_at (HR.out.below (HB.out.mono HB1.out.size)) hx
    subst hA
    obtain ⟨g1, g2, g3, g4⟩ := HF.out x (List.mem_of_getElem? hx)
    have hj3 : (0 : Int) ≤ (j : Int) := by omega
    have hj4 : (j : Int) < (n : Int) := by omega
    have hwj : IntKind.i64.wrap ((j : Int) + 1) = (j : Int) + 1 := IntWalk.i64_in _ ⟨by omega, by omega⟩
    have hwk : IntKind.i64.wrap (x.k : Int) = x.k := IntWalk.i64_in _ ⟨by omega, by omega⟩
    have HP := Lib.hid (fun W => refPrefix_any x.f x.t x.a x.m x.x x.k W g1 g2 g3 g4)
    have hlf := lfs_le (l.take j)
    have htl := tls_le (l.take j)
    rw [List.length_take] at hlf htl
    have hwl : IntKind.i64.wrap (((lfs (l.take j)).length : Int) + 1) = ((lfs (l.take j)).length : Int) + 1 := IntWalk.i64_in _ ⟨by omega, by omega⟩
    have hlt0 : b < wr.heap.size := Nat.lt_of_lt_of_le hbb (Nat.le_trans HB1.out.size HB.out.size)
    have Y := Lib.hid yd
    have HX := Lib.hid hx
    clear yd hx g1 g2 g3 g4
    by_cases hw : whyE x = 0
    case neg =>
      have hpf := pref_no hw
      rw [hpf] at HP
      have e1 : tls (l.take (j + 1)) = tls (l.take j) := by rw [take_snoc HX.out, tls_no hw]
      have e2 : (lfs (l.take (j + 1))).length = (lfs (l.take j)).length + 1 := by rw [take_snoc HX.out, lfs_no hw]; simp
      have E := Lib.hid (And.intro e1 e2)
      clear hw hpf e1 e2 hlf htl
      generalize (lfs (l.take j)).length = lf at *
      go_wp2_with fail
      refine (HP.out _).mono ?_
      rintro e w2 ⟨rfl, b2⟩
      have HO2 := Lib.hid ((own_below HO.out b2).alloc (.cells #[.int .u32 0, .int .i64 0] 86))
      have HB2 := Lib.hid ((HB.out.trans (b2.mono HB.out.size)).alloc (Nat.le_trans HB.out.size b2.size) (.cells #[.int .u32 0, .int .i64 0] 86))
      clear b2 q0 q1 q2 q3 q4 q5 d0 d1
      go_wp2_with fail
      go_roundw
      case rel => exact ⟨j + 1, by omega, by go_num, by rw [E.out.2]; simp, by rw [E.out.1]; exact HO2, HB2⟩
      case measure => simp [intOf]; omega
    case pos =>
      have hpf := pref_yes hw
      rw [hpf] at HP
      have e1 : tls (l.take (j + 1)) = tls (l.take j) ++ [tlE x] := by rw [take_snoc HX.out, tls_yes hw]
      have e2 : lfs (l.take (j + 1)) = lfs (l.take j) := by rw [take_snoc HX.out, lfs_yes hw]
      have e3 : tlC (tls (l.take (j + 1))) = tlC (tls (l.take j)) ++ [.int .u32 x.a, .int .i64 (lenF x.m).1, .int .i64 x.k] := by rw [e1, tlC_app]; rfl
      have e4 : (tls (l.take (j + 1))).length = (tls (l.take j)).length + 1 := by rw [e1]; simp
      have e5 : (lfs (l.take (j + 1))).length = (lfs (l.take j)).length := by rw [e2]
      have E := Lib.hid (And.intro e3 (And.intro e4 e5))
      clear hw hpf e1 e2 e3 e4 e5 hlf
      generalize (lenF x.m).1 = lm at *
      generalize (lfs (l.take j)).length = lf at *
      go_wp2_with fail
      refine (HP.out _).mono ?_
      rintro e w2 ⟨rfl, b2⟩
      have hs2 := Nat.le_trans HB.out.size b2.size
      have yp := Blk.new w2 86 #[.int .u32 x.a, .int .i64 lm]
      have yd := (Y.out.below b2 Y.out.lt).alloc (.cells #[.int .u32 x.a, .int .i64 lm] 86)
      have b3 := balloc b2 (.cells #[.int .u32 x.a, .int .i64 lm] 86)
      replace q5 := (b3.cell (p := ⟨b, off + j * 6 + 5, none⟩) hlt0).trans q5
      clear d0 d1
      have d0 := (yd).cell 0
      have d1 := (yd).cell 1
      simp only [List.getElem?_toArray, List.getElem?_cons_zero, List.getElem?_cons_succ] at d0 d1
      have p0 := (yp).cell 0
      have p1 := (yp).cell 1
      simp only [List.getElem?_toArray, List.getElem?_cons_zero, List.getElem?_cons_succ] at p0 p1
      have hs3 : w1.heap.size ≤ (w2.alloc (.cells #[.int .u32 x.a, .int .i64 lm] 86)).heap.size := by simp; omega
      have HO2 := own_below HO.out b3
      have HB2 := HB.out.trans (b3.mono HB.out.size)
      have hlt3 : b < (w2.alloc (.cells #[.int .u32 x.a, .int .i64 lm] 86)).heap.size := Nat.lt_of_lt_of_le hlt0 b3.size
      clear q0 q1 q2 q3 q4 b2 b3 yp yd
      go_upto_region 9 with fail
      generalize w2.alloc (.cells #[.int .u32 x.a, .int .i64 lm] 86) = w3 at *
      have HO3 := Lib.hid HO2
      have HB3 := Lib.hid HB2
      clear HO2 HB2
      generalize (tls (l.take j)).length = q at *
      go_region_law
        ((refine step_append_lies _ (by rfl) _ _ _ (by rfl) w1.heap.size 93 i0 _ 3 24 Tryz.underlying43 hi0 hz0 hz1 hz2 rfl (by omega) _ q _ (by rfl) ((HO3.out.alloc _).drew)
            ⟨w3.heap.size, 0, none⟩ 1 1 [.int .u32 x.a, .int .i64 lm, .int .i64 x.k] (by rfl) (by rfl) (World.news_of_block (cs := #[.int .u32 x.a, .int .i64 lm, .int .i64 x.k]) (t := 93) (fr := (0, 0)) (heap_alloc_new w3 _)) (by simp [Value.oneCell'])
            (by omega) (by simp only [maxLen]; omega) (by omega) (by simp; omega) (w3.heap.size + 1) (by simp) ?_; intro gg cap w5 hown1 hgrow hat hlt1))
      all_goals
        have BN := (Below.drew (HB3.out.alloc hs3 (.cells #[.int .u32 x.a, .int .i64 lm, .int .i64 x.k] 93))).grown hgrow (by simp; omega) (own_base HO3.out)
        have HBN := Lib.hid BN
        have HON := Lib.hid hown1
        clear BN hown1 hgrow hat
        go_wp2_with fail
        go_roundw
        case rel => exact ⟨j + 1, by omega, by go_num, by rw [E.out.2.2], by rw [E.out.1, E.out.2.1]; exact HON, HBN⟩
        case measure => simp [intOf]; omega
/-- what the document's Left hands back -/
def LeftP (cm : Int) (l : List Er) (w : World) (e : Ending) (w' : World) : Prop :=
  ∃ A c, e = .returned (.slice A (lfsC cm l).length c) ∧ (lfsC cm l).length ≤ c ∧ c ≤ 9223372036854775807 ∧ Rd w' w'.heap.size A (ofC (lfsC cm l)) ∧ Below w.heap.size w w'
set_option maxHeartbeats 4000000 in
theorem refleft_any (cm : Int) (l : List Er) (n c : Nat) (hn : l.length = n) (A : Option Addr) (w : World) (hr : Rd w w.heap.size A (erC l)) (hf : ∀ e ∈ l, fitR e) (hn3 : n ≤ 1000) :
    Calls Tryz.prog 18 #[.agg #[.int .i64 cm, .slice A n c]] w (LeftP cm l w) := by
  obtain ⟨i0, hi0, hz0, hz1, hz2⟩ := info_parts one_info
  have B1 : Below w.heap.size w (w.alloc (.cells #[.int .i64 cm, .slice A n c] 35)) := balloc (Below.refl _ _) _
  have yd := Blk.new w 35 #[.int .i64 cm, .slice A n c]
  have hs1 : (w.alloc (.cells #[.int .i64 cm, .slice A n c] 35)).heap.size = w.heap.size + 1 := by simp
  obtain ⟨w1, hw1⟩ : ∃ w1, w1 = w.alloc (.cells #[.int .i64 cm, .slice A n c] 35) := ⟨_, rfl⟩
  rw [← hw1] at B1 yd hs1
  have HW1 := Lib.hid hw1
  have HS1 := Lib.hid hs1
  have HN := Lib.hid hn
  have HF := Lib.hid hf
  have HR := Lib.hid (hr.below B1)
  have HB1 := Lib.hid B1
  have YD := Lib.hid yd
  clear hw1 hs1 hn hf hr B1
  by_cases h2 : cm = 2
  case neg =>
    have d1 : (cm == 2) = false := by simpa using h2
    have H2 := Lib.hid h2
    have d0 := (yd).cell 0
    have d1 := (yd).cell 1
    simp only [List.getElem?_toArray, List.getElem?_cons_zero, List.getElem?_cons_succ] at d0 d1
    clear h2 yd
    go_enter Tryz.func18, Tryz.ntmps18
    go_wp2_with fail
    rw [← HW1.out]
    go_loopw [3, 4] (fun ov iv wr => ov = .slice none 0 0 ∧ iv = .int .i64 0 ∧ w1 = wr) (fun _ _ _ => 0)
    case atStart => exact ⟨rfl, rfl, rfl⟩
    case round =>
      obtain ⟨rfl, rfl, rfl⟩ := hrel
      have e2 := Lib.hid (show lfsC cm l = [] from if_neg H2.out)
      by_cases h0 : 0 < n
      case pos =>
        have d2 : decide ((0 : Int) < (n : Int)) = true := by simp; omega
        go_wp2_with fail
        go_ret
        exact ⟨none, 0, by rw [e2.out]; rfl, by rw [e2.out]; simp, by omega, by rw [e2.out]; exact Rd.nil, HB1.out⟩
      case neg =>
        have d2 : decide ((0 : Int) < (n : Int)) = false := by simp; omega
        go_wp2_with fail
        go_ret
        exact ⟨none, 0, by rw [e2.out]; rfl, by rw [e2.out]; simp, by omega, by rw [e2.out]; exact Rd.nil, HB1.out⟩
  subst h2
  clear yd
  go_enter Tryz.func18, Tryz.ntmps18
  go_wp2_with fail
  rw [← HW1.out]
  go_loopw [3, 4] (fun ov iv wr => ∃ j : Nat, j ≤ n ∧ iv = .int .i64 j ∧ Hid (wr.ownsRow w1.heap.size 54 2 ov (lfs (l.take j)).length (ofC (lfs (l.take j)))) ∧ Hid (Below w1.heap.size w1 wr)) (fun _ iv _ => n - (intOf iv).toNat)
  case atStart => exact ⟨0, Nat.zero_le _, rfl, Lib.hid (World.ownsRow_nil _ _ _ _), Lib.hid (Below.refl _ _)⟩
  case round =>
    obtain ⟨j, hj, rfl, HO, HB⟩ := hrel
    have yd := YD.out.below HB.out YD.out.lt
    have d0 := (yd).cell 0
    have d1 := (yd).cell 1
    simp only [List.getElem?_toArray, List.getElem?_cons_zero, List.getElem?_cons_succ] at d0 d1
    by_cases hlt : j < n
    case neg =>
      obtain rfl : j = n := by omega
      have d2 : decide ((j : Int) < (j : Int)) = false := by simp
      obtain ⟨A4, c4, hv, k1, k2, k3, k4⟩ := own_row HO.out
      subst hv
      have e2 : lfs (l.take j) = lfsC 2 l := by
        rw [List.take_of_length_le (by rw [HN.out]; exact Nat.le_refl _)]
        rfl
      rw [e2] at k1 k3
      have KK := Lib.hid (And.intro k1 (And.intro k2 k3))
      rw [e2]
      clear e2 k1 k2 k3 k4 yd
      go_wp2_with fail
      go_ret
      exact ⟨A4, c4, rfl, KK.out.1, by have := KK.out.2.1; unfold maxLen at this; omega, KK.out.2.2, HB1.out.trans (HB.out.mono HB1.out.size)⟩
    case pos =>
    have d2 : decide ((j : Int) < (n : Int)) = true := by simp; omega
    obtain ⟨x, hx⟩ : ∃ x, l[j]? = some x := ⟨l[j]'(by rw [HN.out]; exact hlt), List.getElem?_eq_getElem _⟩
    obtain ⟨b, off, hA, hbb, q0, q1, q2, q3, q4, q5⟩ := er_at (HR.out.below (HB.out.mono HB1.out.size)) hx
    subst hA
    obtain ⟨g1, g2, g3, g4⟩ := HF.out x (List.mem_of_getElem? hx)
    have hj3 : (0 : Int) ≤ (j : Int) := by omega
    have hj4 : (j : Int) < (n : Int) := by omega
    have hwj : IntKind.i64.wrap ((j : Int) + 1) = (j : Int) + 1 := IntWalk.i64_in _ ⟨by omega, by omega⟩
    have HP := Lib.hid (fun W => refWhy_any x.f x.t x.a x.m x.x x.k W g1 g2 g3 g4)
    have hlf := lfs_le (l.take j)
    rw [List.length_take] at hlf
    have HX := Lib.hid hx
    have hlj : (l.take j).length = j := by rw [List.length_take, HN.out]; omega
    clear yd hx g1 g2 g3 g4
    rw [show whyF x.f x.a x.m x.x x.k = whyE x from rfl] at HP
    by_cases hw : whyE x = 0
    case pos =>
      have e2 : lfs (l.take (j + 1)) = lfs (l.take j) := by rw [take_snoc HX.out, lfs_yes hw]
      have E := Lib.hid e2
      rw [hw] at HP
      clear hw e2 hlf hlj
      go_wp2_with fail
      refine (HP.out _).mono ?_
      rintro e w2 ⟨rfl, b2⟩
      have HO2 := Lib.hid (own_below HO.out b2)
      have HB2 := Lib.hid (HB.out.trans (b2.mono HB.out.size))
      clear b2 q0 q1 q2 q3 q4 q5 d0 d1
      go_wp2_with fail
      go_roundw
      case rel => exact ⟨j + 1, by omega, by go_num, by rw [E.out]; exact HO2, HB2⟩
      case measure => simp [intOf]; omega
    case neg =>
      have e2 : lfs (l.take (j + 1)) = lfs (l.take j) ++ [(j, whyE x)] := by rw [take_snoc HX.out, lfs_no hw, hlj]
      have e3 : ofC (lfs (l.take (j + 1))) = ofC (lfs (l.take j)) ++ [.int .i64 j, .int .i64 (whyE x)] := by rw [e2, ofC_app]; rfl
      have e4 : (lfs (l.take (j + 1))).length = (lfs (l.take j)).length + 1 := by rw [e2]; simp
      have E := Lib.hid (And.intro e3 e4)
      clear e2 e3 e4
      generalize whyE x = y at *
      have d3 : ((y : Int) != 0) = true := by simp; omega
      clear hw hlj
      go_wp2_with fail
      refine (HP.out _).mono ?_
      rintro e w2 ⟨rfl, b2⟩
      have hs2 := Nat.le_trans HB.out.size b2.size
      have B2 : Below w2.heap.size w2 (w2.alloc (.cells #[.int .i64 j, .int .i64 y] 54)) := balloc (Below.refl _ _) _
      have HO2 := Lib.hid (own_below HO.out (bnext b2 B2))
      have HB2 := Lib.hid ((HB.out.trans (b2.mono HB.out.size)).trans (B2.mono hs2))
      have HNW := Lib.hid (Rd.newL w2 54 #[.int .i64 j, .int .i64 y] [.int .i64 j, .int .i64 y] rfl)
      clear b2 B2 q0 q1 q2 q3 q4 q5 d0 d1
      generalize (lfs (l.take j)).length = q at *
      go_wp2_with (at_builtin; refine wpList_append_rd rfl _ _ 47 rfl w1.heap.size 54 i0 _ 2 16 Tryz.underlying47 hi0 hz0 hz1 hz2 rfl (by decide) _ q _ rfl HO2.out 1 1 [.int .i64 j, .int .i64 y] rfl rfl HNW.out (by simp [Value.oneCell']) (by simp only [maxLen]; omega) (by omega) (by simp; omega) ?_; intro v' w3 ho3 hg3 ha3; have HO3 := Lib.hid ho3; have HB3 := Lib.hid (HB2.out.grown hg3 (by simp; omega) (own_base HO2.out)); clear ho3 hg3 ha3)
      go_roundw
      case rel => exact ⟨j + 1, by omega, by go_num, by rw [E.out.1, E.out.2]; exact HO3, HB3⟩
      case measure => simp [intOf]; omega
end Go.Proofs.YtlanfceilajifaaGreatDoor
