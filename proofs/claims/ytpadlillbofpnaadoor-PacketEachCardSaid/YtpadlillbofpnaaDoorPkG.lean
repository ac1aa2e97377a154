/- packet: the document's Cut: the walk. -/
import Derived.Test.YtpadlillbofpnaaDoorPkF
namespace Go.Proofs.YtpadlillbofpnaaDoor
set_option linter.unusedVariables false
set_option linter.unusedSimpArgs false
open Go.RowKit
set_option maxRecDepth 100000
set_option maxHeartbeats 16000000 in
theorem refcut_any (cm : Int) (l : List Er) (n c : Nat) (hn : l.length = n) (A : Option Addr) (w : World) (hr : Rd w w.heap.size A (erC l)) (hnc : n ≤ c ∧ c ≤ 9223372036854775807) (hl : n ≤ 1000) :
    Calls Tryd.prog 16 #[.int .i64 cm, .slice A n c] w (CutR cm l w) := by
  obtain ⟨i0, hi0, hz0, hz1, hz2⟩ := info_parts dg_info
  obtain ⟨i1, hi1, hy0, hy1, hy2⟩ := info_parts ent_info
  have HN := Lib.hid hn
  have HR := Lib.hid hr
  clear hn hr
  have HIC := Lib.hid (fun W => refcmd_any cm W)
  unfold CutR
  have hbad : ∀ W : World, Below w.heap.size w W → (cmdB cm && l.all okE) = false → ∃ A' ds c', Ending.returned (.tuple #[.slice none 0 0, .int .i64 2]) = .returned (.tuple #[.slice A' (ds : List Dg).length c', .int .i64 (cutE cm l)]) ∧ ds.length = cutN cm l ∧ ds.length ≤ c' ∧ c' ≤ 9223372036854775807 ∧ Rd W W.heap.size A' (dgC cm ds) ∧ Pcs W (fun _ => True) l ds ∧ Below w.heap.size w W := fun W hW h => by
    refine ⟨none, [], 0, by unfold cutE; rw [h]; rfl, by unfold cutN; rw [h]; rfl, by simp, by simp, Rd.nil, fun i d hd => by simp at hd, hW⟩
  have HBAD := Lib.hid hbad
  clear hbad
  cases hcm : cmdB cm
  · rw [hcm] at HIC
    have HF := Lib.hid (show (cmdB cm && l.all okE) = false by rw [hcm]; rfl)
    clear hcm
    go_enter Tryd.func16, Tryd.ntmps16
    go_wp2_with (go_at_call 36; refine (HIC.out _).mono ?_; rintro e w' ⟨rfl, rfl⟩)
    go_ret2
    exact HBAD.out _ (Below.refl _ _) HF.out
  have HCM := Lib.hid hcm
  rw [hcm] at HIC
  clear hcm
  go_enter Tryd.func16, Tryd.ntmps16
  go_wp2_with (go_at_call 36; refine (HIC.out _).mono ?_; rintro e w' ⟨rfl, rfl⟩)
  go_loopw [6, 7] (fun out i wr => ∃ j : Nat, j ≤ n ∧ i = .int .i64 j ∧ Below w.heap.size w wr ∧ (l.take j).all okE = true ∧ Cs wr w.heap.size cm l out j) (fun _ i _ => n - (intOf i).toNat)
  case atStart => exact ⟨0, Nat.zero_le _, rfl, Below.refl _ _, by simp, .inl ⟨rfl, rfl⟩⟩
  case round =>
    obtain ⟨j, hj, rfl, hb, hall, hcs⟩ := hrel
    have HB := Lib.hid hb
    have HA := Lib.hid hall
    have HCS := Lib.hid hcs
    clear hb hall hcs
    by_cases hlt : j < n
    · obtain ⟨x, hx⟩ : ∃ x, l[j]? = some x := ⟨l[j]'(by rw [HN.out]; exact hlt), List.getElem?_eq_getElem _⟩
      have hj2 : (0 : Int) ≤ (j : Int) ∧ (j : Int) < (n : Int) := by omega
      obtain ⟨b, off, hAe, hbw, q0, q1, q2, q3, q4, q5⟩ := er_at (HR.out.below HB.out) hx
      subst hAe
      have HM := Lib.hid (List.mem_of_getElem? hx)
      have HNX := Lib.hid (show (l.take (j + 1)).all okE = okE x by rw [List.take_add_one, hx]; simp only [Option.toList_some, List.all_append, HA.out, Bool.true_and, List.all_cons, List.all_nil, Bool.and_true])
      have HC := Lib.hid (fun W => refRightE_any x.f x.t x.a x.m x.x x.k W)
      have hoe : rightF x.f x.t = okE x := rfl
      rw [hoe] at HC
      have HXX := Lib.hid hx
      clear hx hoe
      cases hok : okE x
      · rw [hok] at HC
        have HE2 := Lib.hid (show (cmdB cm && l.all okE) = false by rw [HCM.out, List.all_eq_false.2 ⟨x, HM.out, by rw [hok]; simp⟩]; rfl)
        clear hok
        go_wp2_with fail
        refine (HC.out _).mono ?_
        rintro e w2 ⟨rfl, b2⟩
        go_wp2_with fail
        go_ret2
        exact HBAD.out _ (bnext HB.out b2) HE2.out
      · rw [hok] at HC HNX
        clear hok
        by_cases h25 : j % 25 = 0
        · have hrem : (j : Int) % 25 = 0 := by omega
          obtain ⟨ds, hfull, hdl⟩ := HCS.out.whole (.inl ⟨h25, by rw [HN.out]; exact hj⟩)
          go_wp2_with fail
          refine (HC.out _).mono ?_
          rintro e w2 ⟨rfl, b2⟩
          have HFU := Lib.hid (hfull.below b2)
          have HB2 := Lib.hid (bnext HB.out b2)
          have HNW := Lib.hid (Rd.newL w2 27 #[.int .i64 cm, .slice none 0 0] [.int .i64 cm, .slice none 0 0] rfl)
          have ho2 := Lib.hid (HFU.out.1.alloc (.cells #[.int .i64 cm, .slice none 0 0] 27))
          have hs2 := HB2.out.size
          clear b2 hfull q0 q1 q2 q3 q4 q5
          have hdl2 : ds.length ≤ 1000 := by omega
          have HDL := Lib.hid hdl
          clear hdl
          go_upto_region 11 with (at_builtin; refine wpList_append_rd rfl (.tmp 26) (.tmp 29) _ rfl w.heap.size 27 i0 _ 2 32 Tryd.underlying39 hi0 hz0 hz1 hz2 rfl (by decide) _ ds.length _ rfl ho2.out 1 1 [.int .i64 cm, .slice none 0 0] rfl rfl HNW.out (by simp [Value.oneCell']) (by simp only [maxLen]; omega) (by omega) (by simp; omega) ?_; intro v' w4 o4 g4 a4)
          have a5 : v'.ownBlock = u6.ownBlock ∨ v'.ownBlock = some ((w2.alloc (.cells #[.int .i64 cm, .slice none 0 0] 27)).heap.size) := a4
          have hin : In1 w4 w.heap.size cm l ds v' (.slice none 0 0) 0 := HFU.out.push (balloc (Below.refl _ _) _) o4 g4 a5 rfl
          have HBW := Lib.hid ((balloc HB2.out _).grown g4 (balloc HB2.out _).size (own_base HFU.out.1))
          have hm : j = 25 * ds.length + 0 ∧ 0 < 25 := by have := HDL.out; omega
          clear g4 a4 a5 o4 ho2 HNW HFU HCS HDL hs2 HB2
          obtain ⟨v, hv⟩ : ∃ v : Value, v = .slice none 0 0 := ⟨_, rfl⟩
          obtain ⟨m, hm0⟩ : ∃ m : Nat, m = 0 := ⟨_, rfl⟩
          rw [← hv, ← hm0] at hin
          rw [← hm0] at hm
          have HV := Lib.hid hv
          clear hv hm0
          generalize w4 = ww at *
          obtain ⟨go, oc, rfl, hgo⟩ := hin.ob
          obtain ⟨oz, oq⟩ := own_cell hin.1 (i := ds.length * 2 + 1) (u := v) (by rw [List.getElem?_append_right (by rw [dgC_len]; omega), dgC_len, show ds.length * 2 + 1 - ds.length * 2 = 1 by omega]; rfl)
          have hgl := own_lt hin.1 go rfl
          have hvl := own_lt hin.2.1
          have hvb := own_base' hin.2.1
          have hvg : v.ownBlock ≠ some go := fun e => hin.2.2.2 go e rfl
          have hvb2 : v.ownBlock ≠ some b := fun e => by have := hvb b e; omega
          have hbl : b < ww.heap.size := by have := HBW.out.size; omega
          obtain ⟨b', off', hAe, _, q0, q1, q2, q3, q4, q5⟩ := er_at (HR.out.below HBW.out) HXX.out
          injection hAe with hAe
          injection hAe with hA1 hA2 _
          subst hA1
          subst hA2
          have HIN := Lib.hid hin
          have hob := Lib.hid hin.2.1
          have HBS := Lib.hid HBW.out.size
          clear hin hvl hvb
          generalize hq : ds.length = q at *
          have HQ := Lib.hid hq
          have HM2 := Lib.hid hm
          have hm24 : m ≤ 24 := by omega
          have hmj : m ≤ 1000 := by omega
          clear hm
          have hq3 : (0 : Int) ≤ (q : Int) := by omega
          have hq4 : (q : Int) < (q : Int) + 1 := by omega
          have hj3 : (0 : Int) ≤ (j : Int) := by omega
          have hwq : IntKind.i64.wrap (q : Int) = (q : Int) := by simp [IntKind.wrap, IntKind.bits, IntKind.signed]; omega
          have hwq2 : IntKind.i64.wrap ((q : Int) + 1 - 1) = (q : Int) := by rw [Int.add_sub_cancel]; exact hwq
          have hj4 : (j : Int) < (n : Int) := by omega
          clear hq
          go_wp2_with fail
          go_region_law
            ((refine step_append_lies _ (by rfl) _ _ _ (by rfl) w.heap.size 55 i1 _ 6 32 Tryd.underlying25 hi1 hy0 hy1 hy2 rfl (by omega) v m _ (by rfl) ((hob.out.alloc _).drew)
                ⟨ww.heap.size, 0, none⟩ 1 1 [.int .i64 x.f, .int .i64 x.t, .int .u32 x.a, .int .u32 x.m, .int .u32 x.x, .int .u32 x.k] (by rfl) (by rfl) (World.news_of_block (cs := #[.int .i64 x.f, .int .i64 x.t, .int .u32 x.a, .int .u32 x.m, .int .u32 x.x, .int .u32 x.k]) (t := 55) (fr := (0, 0)) (heap_alloc_new ww _)) (by simp [Value.oneCell'])
                (by omega) (by simp only [maxLen]; omega) (by omega) (by have := HBS.out; simp; omega) (ww.heap.size + 1) (by simp) ?_; intro gg cap w1 hown1 hgrow hat hlt1; have oz1 := (hgrow.frozen_far ⟨go, q * 2 + 1, none⟩ (by simp; omega) (Ne.symm hvg)); have oc1 : w1.cell? ⟨go, q * 2 + 1, none⟩ = some v := (hgrow.cell_far ⟨go, q * 2 + 1, none⟩ (by simp; omega) (Ne.symm hvg)).trans ((World.cell?_alloc_old ww _ ⟨go, q * 2 + 1, none⟩ (show go ≠ ww.heap.size by omega)).trans oq)))
          all_goals
            have hq := HQ.out
            subst hq
            have GN := HIN.out.grow (W1 := (ww.alloc (.cells #[.int .i64 x.f, .int .i64 x.t, .int .u32 x.a, .int .u32 x.m, .int .u32 x.x, .int .u32 x.k] 55)).drew) (x := x) (v' := .slice (some ⟨gg, 0, none⟩) (m + 1) cap) (by rw [← HM2.out.1]; exact HXX.out) (Below.drew (balloc (Below.refl _ _) _)) HBS.out hown1 hgrow (by
              rcases hat with h | h
              · left; rw [h]; rfl
              · right; rw [h]; simp [Value.ownBlock])
            have HG := Lib.hid GN
            have BN := ((Below.drew (balloc HBW.out (.cells #[.int .i64 x.f, .int .i64 x.t, .int .u32 x.a, .int .u32 x.m, .int .u32 x.x, .int .u32 x.k] 55))).grown hgrow (Below.drew (balloc HBW.out _)).size (own_base hob.out)).setCell (p := ⟨go, ds.length * 2 + 1, none⟩) hgo (.slice (some ⟨gg, 0, none⟩) (m + 1) cap)
            have HBN := Lib.hid BN
            have HJ := Lib.hid HM2.out.1
            clear GN BN hown1 hgrow hat oz1 oc1 oz oq q0 q1 q2 q3 q4 q5 hwq hwq2 HIN hob
            go_wp2_with fail
            go_roundw
            case rel => exact ⟨j + 1, by omega, by go_num, HBN.out, HNX.out, .inr ⟨ds, _, m + 1, by have := HJ.out; omega, by omega, by omega, HG.out⟩⟩
            case measure => simp [intOf]; omega
        · have hrem : ¬ (j : Int) % 25 = 0 := by omega
          go_wp2_with fail
          refine (HC.out _).mono ?_
          rintro e w2 ⟨rfl, b2⟩
          rcases HCS.out with ⟨h0, _⟩ | ⟨ds, v, m, h1, h2, h3, h4⟩
          · omega
          have hin : In1 w2 w.heap.size cm l ds u6 v m := h4.below b2
          have HBW := Lib.hid (bnext HB.out b2)
          have hm : j = 25 * ds.length + m ∧ m < 25 := by omega
          have hdl2 : ds.length ≤ 1000 := by omega
          have HMM := Lib.hid hm
          clear h1 h2 h3 h4 b2 q0 q1 q2 q3 q4 q5 HCS hm
          generalize w2 = ww at *
          go_upto_region 11 with fail
          have hm := HMM.out
          clear HMM
          obtain ⟨go, oc, rfl, hgo⟩ := hin.ob
          obtain ⟨oz, oq⟩ := own_cell hin.1 (i := ds.length * 2 + 1) (u := v) (by rw [List.getElem?_append_right (by rw [dgC_len]; omega), dgC_len, show ds.length * 2 + 1 - ds.length * 2 = 1 by omega]; rfl)
          have hgl := own_lt hin.1 go rfl
          have hvl := own_lt hin.2.1
          have hvb := own_base' hin.2.1
          have hvg : v.ownBlock ≠ some go := fun e => hin.2.2.2 go e rfl
          have hvb2 : v.ownBlock ≠ some b := fun e => by have := hvb b e; omega
          have hbl : b < ww.heap.size := by have := HBW.out.size; omega
          obtain ⟨b', off', hAe, _, q0, q1, q2, q3, q4, q5⟩ := er_at (HR.out.below HBW.out) HXX.out
          injection hAe with hAe
          injection hAe with hA1 hA2 _
          subst hA1
          subst hA2
          have HIN := Lib.hid hin
          have hob := Lib.hid hin.2.1
          have HBS := Lib.hid HBW.out.size
          clear hin hvl hvb
          generalize hq : ds.length = q at *
          have HQ := Lib.hid hq
          have HM2 := Lib.hid hm
          have hm24 : m ≤ 24 := by omega
          have hmj : m ≤ 1000 := by omega
          clear hm
          have hq3 : (0 : Int) ≤ (q : Int) := by omega
          have hq4 : (q : Int) < (q : Int) + 1 := by omega
          have hj3 : (0 : Int) ≤ (j : Int) := by omega
          have hwq : IntKind.i64.wrap (q : Int) = (q : Int) := by simp [IntKind.wrap, IntKind.bits, IntKind.signed]; omega
          have hwq2 : IntKind.i64.wrap ((q : Int) + 1 - 1) = (q : Int) := by rw [Int.add_sub_cancel]; exact hwq
          have hj4 : (j : Int) < (n : Int) := by omega
          clear hq
          go_wp2_with fail
          go_region_law
            ((refine step_append_lies _ (by rfl) _ _ _ (by rfl) w.heap.size 55 i1 _ 6 32 Tryd.underlying25 hi1 hy0 hy1 hy2 rfl (by omega) v m _ (by rfl) ((hob.out.alloc _).drew)
                ⟨ww.heap.size, 0, none⟩ 1 1 [.int .i64 x.f, .int .i64 x.t, .int .u32 x.a, .int .u32 x.m, .int .u32 x.x, .int .u32 x.k] (by rfl) (by rfl) (World.news_of_block (cs := #[.int .i64 x.f, .int .i64 x.t, .int .u32 x.a, .int .u32 x.m, .int .u32 x.x, .int .u32 x.k]) (t := 55) (fr := (0, 0)) (heap_alloc_new ww _)) (by simp [Value.oneCell'])
                (by omega) (by simp only [maxLen]; omega) (by omega) (by have := HBS.out; simp; omega) (ww.heap.size + 1) (by simp) ?_; intro gg cap w1 hown1 hgrow hat hlt1; have oz1 := (hgrow.frozen_far ⟨go, q * 2 + 1, none⟩ (by simp; omega) (Ne.symm hvg)); have oc1 : w1.cell? ⟨go, q * 2 + 1, none⟩ = some v := (hgrow.cell_far ⟨go, q * 2 + 1, none⟩ (by simp; omega) (Ne.symm hvg)).trans ((World.cell?_alloc_old ww _ ⟨go, q * 2 + 1, none⟩ (show go ≠ ww.heap.size by omega)).trans oq)))
          all_goals
            have hq := HQ.out
            subst hq
            have GN := HIN.out.grow (W1 := (ww.alloc (.cells #[.int .i64 x.f, .int .i64 x.t, .int .u32 x.a, .int .u32 x.m, .int .u32 x.x, .int .u32 x.k] 55)).drew) (x := x) (v' := .slice (some ⟨gg, 0, none⟩) (m + 1) cap) (by rw [← HM2.out.1]; exact HXX.out) (Below.drew (balloc (Below.refl _ _) _)) HBS.out hown1 hgrow (by
              rcases hat with h | h
              · left; rw [h]; rfl
              · right; rw [h]; simp [Value.ownBlock])
            have HG := Lib.hid GN
            have BN := ((Below.drew (balloc HBW.out (.cells #[.int .i64 x.f, .int .i64 x.t, .int .u32 x.a, .int .u32 x.m, .int .u32 x.x, .int .u32 x.k] 55))).grown hgrow (Below.drew (balloc HBW.out _)).size (own_base hob.out)).setCell (p := ⟨go, ds.length * 2 + 1, none⟩) hgo (.slice (some ⟨gg, 0, none⟩) (m + 1) cap)
            have HBN := Lib.hid BN
            have HJ := Lib.hid HM2.out.1
            clear GN BN hown1 hgrow hat oz1 oc1 oz oq q0 q1 q2 q3 q4 q5 hwq hwq2 HIN hob
            go_wp2_with fail
            go_roundw
            case rel => exact ⟨j + 1, by omega, by go_num, HBN.out, HNX.out, .inr ⟨ds, _, m + 1, by have := HJ.out; omega, by omega, by omega, HG.out⟩⟩
            case measure => simp [intOf]; omega
    · obtain rfl : j = n := by omega
      have HAL := Lib.hid (show l.all okE = true by have := HA.out; rwa [List.take_of_length_le (by rw [HN.out]; exact Nat.le_refl _)] at this)
      obtain ⟨ds, ⟨f1, f2⟩, f3⟩ := HCS.out.whole (.inr HN.out.symm)
      obtain ⟨A9, c9, rfl, k1, k2, k3, k4⟩ := own_row f1
      have HF2 := Lib.hid f2
      have HF3 := Lib.hid f3
      clear f1 f2 f3 HCS
      go_wp2_with fail
      go_ret2
      refine ⟨A9, ds, c9, by unfold cutE; rw [HCM.out, HAL.out]; rfl, by unfold cutN; rw [HCM.out, HAL.out, HN.out]; exact HF3.out, k1, by unfold maxLen at k2; omega, k3, HF2.out.fr (Fr.of_below (p := fun _ => True) (Below.refl _ _)) (fun _ _ _ => trivial) (fun _ _ _ => trivial), HB.out⟩
end Go.Proofs.YtpadlillbofpnaaDoor
