/- packet: the document's Check, Encode, Decode; AsksAll, Same. -/
import Derived.Test.YtpadlillbofpnaaDoorPk5
namespace Go.Proofs.YtpadlillbofpnaaDoor
set_option linter.unusedVariables false
set_option linter.unusedSimpArgs false
open Go.RowKit
set_option maxRecDepth 100000
theorem byte_at {w : World} {B : Nat} {A : Option Addr} {l : List UInt8} (h : Rd w B A (l.map b8)) (h4 : 4 ≤ l.length) :
    ∃ b off, A = some ⟨b, off, none⟩ ∧ b < B ∧ w.cell? ⟨b, off, none⟩ = some (.int .u8 (at8 l 0)) ∧ w.cell? ⟨b, off + 1, none⟩ = some (.int .u8 (at8 l 1)) ∧ w.cell? ⟨b, off + 2, none⟩ = some (.int .u8 (at8 l 2)) ∧ w.cell? ⟨b, off + 3, none⟩ = some (.int .u8 (at8 l 3)) := by
  obtain ⟨b, off, rfl, hb, hc⟩ := h (by rw [List.length_map]; omega)
  have key : ∀ i, i < l.length → w.cell? ⟨b, off + i, none⟩ = some (.int .u8 (at8 l i)) := fun i hi => by
    rw [hc i (b8 (l[i])) (by simp [List.getElem?_eq_getElem hi])]
    unfold b8 at8
    rw [List.getD, List.getElem?_eq_getElem hi]
    rfl
  exact ⟨b, off, rfl, hb, key 0 (by omega), key 1 (by omega), key 2 (by omega), key 3 (by omega)⟩

set_option maxHeartbeats 4000000 in
theorem refcheck5_any (l : List UInt8) (n : Nat) (hn : l.length = n) (A : Option Addr) (c B : Nat) (w : World) (h : Rd w B A (l.map b8)) (hlc : n ≤ c) (hc : c ≤ 9223372036854775807) :
    Calls Tryd.prog 28 #[.slice A n c] w fun e w' => e = .returned (.int .i64 (decE l)) ∧ w = w' := by
  have HN := Lib.hid hn
  have HR := Lib.hid h
  clear h hn
  by_cases h1 : 4 ≤ n
  case neg =>
    rw [show decE l = 150 by unfold decE; rw [if_pos (by rw [HN.out]; omega)]]
    have g1 : decide ((n : Int) < 4) = true := decide_eq_true (by omega)
    go_enter Tryd.func28, Tryd.ntmps28
    go_wp2
    all_goals first | (go_ret; exact ⟨rfl, rfl⟩) | (exfalso; omega)
  by_cases h2 : (n - 4) % 20 = 0 ∧ n ≤ 504
  case neg =>
    rw [show decE l = 151 by unfold decE; rw [if_neg (by rw [HN.out]; omega), if_pos (by rw [HN.out]; exact h2)]]
    have g1 : decide ((n : Int) < 4) = false := decide_eq_false (by omega)
    have h2x : ((n : Int) - 4) % 20 = 0 → (504 : Int) < (n : Int) := fun hh => by omega
    go_enter Tryd.func28, Tryd.ntmps28
    go_wp2
    all_goals first | (go_ret; exact ⟨rfl, rfl⟩) | (exfalso; omega)
  by_cases h3 : at8 l 1 = 2
  case neg =>
    rw [show decE l = 152 by unfold decE; rw [if_neg (by rw [HN.out]; omega), if_neg (by rw [HN.out]; exact fun hh => hh h2), if_pos h3]]
    have g1 : decide ((n : Int) < 4) = false := decide_eq_false (by omega)
    obtain ⟨b, off, hA, _, q0, q1, q2, q3⟩ := byte_at HR.out (by rw [HN.out]; exact h1)
    subst hA
    have h2m : ((n : Int) - 4) % 20 = 0 := by omega
    have h2n : ¬ (504 : Int) < (n : Int) := by omega
    have g3 : ((at8 l 1 : Int) != 2) = true := by rw [bne_iff_ne]; omega
    clear HR
    go_enter Tryd.func28, Tryd.ntmps28
    go_wp2
    all_goals first | (go_ret; exact ⟨rfl, rfl⟩) | (exfalso; omega)
  by_cases h4 : cmdB (at8 l 0) = true
  case neg =>
    rw [show decE l = 153 by unfold decE; rw [if_neg (by rw [HN.out]; omega), if_neg (by rw [HN.out]; exact fun hh => hh h2), if_neg (by intro hh; exact hh h3), if_pos (by simpa using h4)]]
    have g1 : decide ((n : Int) < 4) = false := decide_eq_false (by omega)
    obtain ⟨b, off, hA, _, q0, q1, q2, q3⟩ := byte_at HR.out (by rw [HN.out]; exact h1)
    subst hA
    have h2m : ((n : Int) - 4) % 20 = 0 := by omega
    have h2n : ¬ (504 : Int) < (n : Int) := by omega
    have g3 : ((at8 l 1 : Int) != 2) = false := by simp; omega
    have g4 : ((at8 l 0 : Int) != 1) = true := by rw [bne_iff_ne]; intro e; exact h4 (decide_eq_true (.inl e))
    have g4b : ((at8 l 0 : Int) != 2) = true := by rw [bne_iff_ne]; intro e; exact h4 (decide_eq_true (.inr e))
    clear HR
    go_enter Tryd.func28, Tryd.ntmps28
    go_wp2
    all_goals first | (go_ret; exact ⟨rfl, rfl⟩) | (exfalso; omega)
  by_cases h5 : at8 l 2 = 0 ∧ at8 l 3 = 0
  case neg =>
    rw [show decE l = 154 by unfold decE; rw [if_neg (by rw [HN.out]; omega), if_neg (by rw [HN.out]; exact fun hh => hh h2), if_neg (by intro hh; exact hh h3), if_neg (by rw [h4]; simp), if_pos (by omega)]]
    have g1 : decide ((n : Int) < 4) = false := decide_eq_false (by omega)
    obtain ⟨b, off, hA, _, q0, q1, q2, q3⟩ := byte_at HR.out (by rw [HN.out]; exact h1)
    subst hA
    have h2m : ((n : Int) - 4) % 20 = 0 := by omega
    have h2n : ¬ (504 : Int) < (n : Int) := by omega
    have g3 : ((at8 l 1 : Int) != 2) = false := by simp; omega
    have hcm := cmd_cases h4
    clear HR
    rcases hcm with hcm | hcm
    all_goals
      simp only [hcm] at q0
      by_cases h5a : at8 l 2 = 0
      · have g5 : ((at8 l 2 : Int) != 0) = false := by simp; omega
        have g5b : ((at8 l 3 : Int) != 0) = true := by rw [bne_iff_ne]; omega
        clear h5a h5
        go_enter Tryd.func28, Tryd.ntmps28
        go_wp2
        go_ret
        exact ⟨rfl, rfl⟩
      · have g5 : ((at8 l 2 : Int) != 0) = true := by rw [bne_iff_ne]; omega
        clear h5a h5
        go_enter Tryd.func28, Tryd.ntmps28
        go_wp2
        go_ret
        exact ⟨rfl, rfl⟩
  rw [show decE l = 0 by unfold decE; rw [if_neg (by rw [HN.out]; omega), if_neg (by rw [HN.out]; exact fun hh => hh h2), if_neg (by intro hh; exact hh h3), if_neg (by rw [h4]; simp), if_neg (by intro hh; exact hh (by omega))]]
  have g1 : decide ((n : Int) < 4) = false := decide_eq_false (by omega)
  obtain ⟨b, off, hA, _, q0, q1, q2, q3⟩ := byte_at HR.out (by rw [HN.out]; exact h1)
  subst hA
  have h2m : ((n : Int) - 4) % 20 = 0 := by omega
  have h2n : ¬ (504 : Int) < (n : Int) := by omega
  have g3 : ((at8 l 1 : Int) != 2) = false := by simp; omega
  have hcm := cmd_cases h4
  clear HR
  rcases hcm with hcm | hcm
  all_goals
    simp only [hcm] at q0
    have g5 : ((at8 l 2 : Int) != 0) = false := by simp; omega
    have g5b : ((at8 l 3 : Int) != 0) = false := by simp; omega
    go_enter Tryd.func28, Tryd.ntmps28
    go_wp2
    go_ret
    exact ⟨rfl, rfl⟩

set_option maxHeartbeats 4000000 in
theorem refencode5_any (cm : Int) (l : List Er) (n c : Nat) (hn : l.length = n) (A : Option Addr) (w : World) (hr : Rd w w.heap.size A (erC l)) (hf : ∀ e ∈ l, fitR e) (hc : n ≤ c ∧ c ≤ 9223372036854775807) :
    Calls Tryd.prog 18 #[.agg #[.int .i64 cm, .slice A n c]] w (GivesB (encB cm l) (encE cm l) w) := by
  have HN := Lib.hid hn
  have HR := Lib.hid hr
  have HF := Lib.hid hf
  have hB1 : Below w.heap.size w (w.alloc (.cells #[.int .i64 cm, .slice A n c] 27)) := balloc (Below.refl _ _) _
  have HB1 := Lib.hid hB1
  have HX := Lib.hid (Blk.new w 27 #[.int .i64 cm, .slice A n c])
  clear hn hr hf
  have HIC := Lib.hid (fun W => refcmd_any cm W)
  cases hcm : cmdB cm
  · rw [hcm] at HIC
    have he : encE cm l = 2 := by unfold encE; rw [if_pos hcm]
    have he2 : encB cm l = [] := by unfold encB; rw [he]; rfl
    rw [he, he2]
    clear hcm he he2
    go_enter Tryd.func18, Tryd.ntmps18
    go_wp2_with (go_at_call 36; refine (HIC.out _).mono ?_; rintro e w' ⟨rfl, rfl⟩)
    go_ret2
    exact gives_none 2 HB1.out
  have HCM := Lib.hid hcm
  rw [hcm] at HIC
  by_cases h25 : 25 < n
  · have he : encE cm l = 3 := by unfold encE; rw [if_neg (by rw [hcm]; simp), if_pos (by rw [HN.out]; exact h25)]
    have he2 : encB cm l = [] := by unfold encB; rw [he]; rfl
    rw [he, he2]
    have g1 : decide ((25 : Int) < n) = true := decide_eq_true (by omega)
    have g1' : decide (25 < n) = true := decide_eq_true h25
    clear hcm he he2
    go_enter Tryd.func18, Tryd.ntmps18
    go_wp2_with (go_at_call 36; refine (HIC.out _).mono ?_; rintro e w' ⟨rfl, rfl⟩)
    go_ret2
    exact gives_none 3 HB1.out
  have g1 : decide ((25 : Int) < n) = false := decide_eq_false (by omega)
  have g1' : decide (25 < n) = false := decide_eq_false h25
  have HE := Lib.hid (show encE cm l = if l.all okE then 0 else 2 by unfold encE; rw [if_neg (by rw [hcm]; simp), if_neg (by rw [HN.out]; exact h25)])
  clear hcm
  go_enter Tryd.func18, Tryd.ntmps18
  go_wp2_with (go_at_call 36; refine (HIC.out _).mono ?_; rintro e w' ⟨rfl, rfl⟩)
  go_loopw [4] (fun i wr => ∃ j : Nat, j ≤ n ∧ i = .int .i64 j ∧ Below w.heap.size w wr ∧ Blk wr w.heap.size 27 #[.int .i64 cm, .slice A n c] ∧ (l.take j).all okE = true) (fun i _ => n - (intOf i).toNat)
  case atStart => exact ⟨0, Nat.zero_le _, rfl, HB1.out, HX.out, by simp⟩
  case round =>
    obtain ⟨j, hj, rfl, hb, hx, hall⟩ := hrel
    have HB := Lib.hid hb
    have HA := Lib.hid hall
    have HXX := Lib.hid hx
    have d0 := (hx).cell 0
    have d1 := (hx).cell 1
    simp only [List.getElem?_toArray, List.getElem?_cons_zero, List.getElem?_cons_succ] at d0 d1
    have kl := hx.lt
    clear hb hall hx
    by_cases hlt : j < n
    · obtain ⟨x, hx⟩ : ∃ x, l[j]? = some x := ⟨l[j]'(by rw [HN.out]; exact hlt), List.getElem?_eq_getElem _⟩
      obtain ⟨b, off, hAe, _, q0, q1, q2, q3, q4, q5⟩ := er_at (HR.out.below HB.out) hx
      subst hAe
      have HM := Lib.hid (List.mem_of_getElem? hx)
      have HNX := Lib.hid (show (l.take (j + 1)).all okE = okE x by rw [List.take_add_one, hx]; simp only [Option.toList_some, List.all_append, HA.out, Bool.true_and, List.all_cons, List.all_nil, Bool.and_true])
      have HC := Lib.hid (fun W => refRightE_any x.f x.t x.a x.m x.x x.k W)
      have hj2 : (0 : Int) ≤ (j : Int) ∧ (j : Int) < (n : Int) := by omega
      have hoe : rightF x.f x.t = okE x := rfl
      rw [hoe] at HC
      clear hx hoe
      cases hok : okE x
      · rw [hok] at HC
        have HE2 := Lib.hid (show encE cm l = 2 by rw [HE.out, if_neg (by rw [List.all_eq_false.2 ⟨x, HM.out, by rw [hok]; simp⟩]; simp)])
        clear hok
        go_wp2_with fail
        refine (HC.out _).mono ?_
        rintro e w2 ⟨rfl, b2⟩
        go_wp2_with fail
        go_ret2
        rw [HE2.out, show encB cm l = [] by unfold encB; rw [HE2.out]; rfl]
        exact gives_none 2 (bnext HB.out b2)
      · rw [hok] at HC HNX
        clear hok
        go_wp2_with fail
        refine (HC.out _).mono ?_
        rintro e w2 ⟨rfl, b2⟩
        have hx2 := HXX.out.below b2 HXX.out.lt
        go_wp2_with fail
        go_roundw
        case rel => exact ⟨j + 1, by omega, by go_num, bnext HB.out b2, hx2, HNX.out⟩
        case measure => simp [intOf]; omega
    · obtain rfl : j = n := by omega
      have HAL := Lib.hid (show l.all okE = true by have := HA.out; rwa [List.take_of_length_le (by rw [HN.out]; exact Nat.le_refl _)] at this)
      have HE2 := Lib.hid (show encE cm l = 0 by rw [HE.out, if_pos HAL.out])
      have HBY := Lib.hid (refbytes5_any cm l j c HN.out A wr ((HR.out.below HB.out).more HB.out.size) HF.out HCM.out (by omega) HAL.out)
      go_wp2_with fail
      refine HBY.out.mono ?_
      rintro e w2 ⟨A2, c2, rfl, q1, q2, q3, b2, _⟩
      go_wp2_with fail
      go_ret2
      rw [HE2.out, show encB cm l = pkB cm l by unfold encB; rw [if_pos HE2.out]]
      exact ⟨A2, c2, rfl, q1, by unfold maxLen at q2; omega, q3, bnext HB.out b2⟩

/-- what the document's Decode hands back -/
def DecR (l : List UInt8) (w : World) (e : Ending) (w' : World) : Prop :=
  ∃ A c, e = .returned (.tuple #[.agg #[.int .i64 (dcmd l), .slice A (desL l).length c], .int .i64 (decE l)]) ∧ (desL l).length ≤ c ∧ c ≤ 9223372036854775807 ∧ Rd w' w'.heap.size A (erC (desL l)) ∧ Below w.heap.size w w'
set_option maxHeartbeats 4000000 in
theorem refdecode5_any (l : List UInt8) (n : Nat) (hn : l.length = n) (A : Option Addr) (c B : Nat) (w : World) (h : Rd w B A (l.map b8)) (hlc : n ≤ c) (hc : c ≤ 9223372036854775807) (hB : B ≤ w.heap.size) :
    Calls Tryd.prog 10 #[.slice A n c] w (DecR l w) := by
  have hb1 : Below w.heap.size w (w.alloc (.cells #[.int .i64 0, .slice none 0 0] 27)) := balloc (Below.refl _ _) _
  have hx := Blk.new w 27 #[.int .i64 0, .slice none 0 0]
  have HCK := Lib.hid (refcheck5_any l n hn A c B _ (h.below (hb1.mono hB)) hlc hc)
  have HB1 := Lib.hid hb1
  have HX := Lib.hid hx
  have HR := Lib.hid (h.below (hb1.mono hB))
  have HN := Lib.hid hn
  have d0 := (hx).cell 0
  have d1 := (hx).cell 1
  simp only [List.getElem?_toArray, List.getElem?_cons_zero, List.getElem?_cons_succ] at d0 d1
  have f0 := hx.frozen 0
  have f1 := hx.frozen 1
  have kl := hx.lt
  clear hb1 hx h hn
  by_cases hE : decE l = 0
  case neg =>
    have hd : desL l = [] := by unfold desL; rw [if_neg hE]
    have hdc : dcmd l = 0 := by unfold dcmd; rw [if_neg hE]
    have HD := Lib.hid (And.intro hd hdc)
    obtain ⟨k, hk⟩ : ∃ k, k = decE l := ⟨_, rfl⟩
    rw [← hk] at HCK hE
    have HK := Lib.hid hk
    have g1 : ((k : Int) != 0) = true := by rw [bne_iff_ne]; exact hE
    have z := (HX.out.set 0 (.int .i64 0)).set 1 (.slice none 0 0)
    simp only [List.setIfInBounds_toArray, List.set_cons_zero, List.set_cons_succ] at z
    have z0 := z.cell 0
    have z1 := z.cell 1
    simp only [List.getElem?_toArray, List.getElem?_cons_zero, List.getElem?_cons_succ] at z0 z1
    have hbz : Below w.heap.size w (((w.alloc (.cells #[.int .i64 0, .slice none 0 0] 27)).setCell ⟨w.heap.size, 0, none⟩ (.int .i64 0)).setCell ⟨w.heap.size, 1, none⟩ (.slice none 0 0)) := (HB1.out.setCell (p := ⟨w.heap.size, 0, none⟩) (Nat.le_refl _) _).setCell (p := ⟨w.heap.size, 1, none⟩) (Nat.le_refl _) _
    have HBZ := Lib.hid hbz
    clear hk hd hdc hE z hbz
    go_enter Tryd.func10, Tryd.ntmps10
    go_wp2_with (go_at_call 28; refine HCK.out.mono ?_; rintro e w' ⟨rfl, rfl⟩)
    refine bodyPost_ret (v := .tuple #[.agg #[.int .i64 0, .slice none 0 0], .int .i64 k]) (by simp [results, Tryd.results10, go_sem, z0, z1]) rfl ?_
    refine ⟨none, 0, ?_, by rw [HD.out.1]; simp, by omega, by rw [HD.out.1]; exact Rd.nil, HB1.out⟩
    rw [HD.out.1, HD.out.2, ← HK.out]
    rfl
  case pos =>
    obtain ⟨h4, h20, h504, _⟩ := decE_zero hE
    have hd : desL l = ersOf (l.drop 4) := by unfold desL; rw [if_pos hE]
    have hdc : dcmd l = at8 l 0 := by unfold dcmd; rw [if_pos hE]
    have HD := Lib.hid (And.intro hd (And.intro hdc hE))
    rw [hE] at HCK
    rw [HN.out] at h4 h20 h504
    obtain ⟨b, off, hA, hbB, q0, _⟩ := byte_at HR.out (by rw [HN.out]; exact h4)
    have hlt8 := at8_lt l 0
    have hwr : IntKind.i64.wrap (at8 l 0 : Int) = at8 l 0 := IntWalk.i64_in _ ⟨by omega, by omega⟩
    subst hA
    clear hd hdc hE
    have hl4 : (l.drop 4).length = n - 4 := by rw [List.length_drop, HN.out]
    have hrd : ∃ A', (if c = 4 then A' = some ⟨b, off, none⟩ else A' = some ⟨b, off + 4, none⟩) ∧ Rd (w.alloc (.cells #[.int .i64 0, .slice none 0 0] 27)) B A' ((l.drop 4).map b8) := by
      by_cases hc4 : c = 4
      · refine ⟨some ⟨b, off, none⟩, by rw [if_pos hc4], fun h0 => ?_⟩
        rw [List.length_map, hl4] at h0
        omega
      · refine ⟨some ⟨b, off + 4, none⟩, by rw [if_neg hc4], ?_⟩
        by_cases hn4 : n = 4
        · intro h0
          rw [List.length_map, hl4] at h0
          omega
        · have := rd_drop HR.out 4 (by rw [HN.out]; omega)
          simpa [add_plain] using this
    obtain ⟨A', hA', hrA⟩ := hrd
    have HEA := Lib.hid (fun W (hW : Below (w.alloc (.cells #[.int .i64 0, .slice none 0 0] 27)).heap.size (w.alloc (.cells #[.int .i64 0, .slice none 0 0] 27)) W) => refEEach_new (l.drop 4) A' (c - 4) W ((hrA.below (hW.mono (Nat.le_trans hB HB1.out.size))).more (Nat.le_trans hB (Nat.le_trans HB1.out.size hW.size))) (by rw [hl4]; omega) (by omega) (by rw [hl4]; omega))
    rw [hl4] at HEA
    have hne : n - 4 = n - 4 := rfl
    have hx3 : (n - 4) / 20 = (desL l).length := by rw [HD.out.1, ersOf_len, hl4]
    have HX3 := Lib.hid hx3
    have HXE := Lib.hid (show entC (l.drop 4) ((n - 4) / 20) = erC (desL l) by rw [HD.out.1, ← hl4]; exact entC_ers _)
    have HL4 := Lib.hid hl4
    obtain ⟨nn, hnn⟩ : ∃ nn, nn = (n - 4) / 20 := ⟨_, rfl⟩
    rw [← hnn] at HEA HX3 HXE
    clear hrA hl4 hx3 hne hnn
    have s1 := q0
    obtain ⟨w1, hw1⟩ : ∃ w1, w1 = w.alloc (.cells #[.int .i64 0, .slice none 0 0] 27) := ⟨_, rfl⟩
    rw [← hw1] at HCK HEA HB1 HX s1 q0 d0 d1 f0 f1 kl
    have HW1 := Lib.hid hw1
    clear hw1 HR
    by_cases hc4 : c = 4
    case' pos =>
      rw [if_pos hc4] at hA'
      subst hc4
      obtain rfl : n = 4 := by omega
    case' neg =>
      rw [if_neg hc4] at hA'
    all_goals
      subst hA'
      go_enter Tryd.func10, Tryd.ntmps10
      go_wp2_with fail
      rw [← HW1.out]
      refine HCK.out.mono ?_
      rintro e w' ⟨rfl, rfl⟩
      have s0 : w1.drew.cell? ⟨b, off, none⟩ = some (.int .u8 (at8 l 0)) := q0
      have hbg : w.heap.size ≠ b := by omega
      have hbl := cell_lt q0
      try have hp1 : 0 < n := by omega
      try have hp2 : (4 : Int) ≤ (n : Int) := by omega
      go_wp2_with fail
      go_region_held3 (fun w' => w'.cell? ⟨b, off, none⟩ = some (.int .u8 (at8 l 0)))
        (first | exact s0 | exact s1 | exact (hb4.cell hbl).trans q0 | exact (World.cell?_setCell_far _ ⟨w.heap.size, 1, none⟩ ⟨b, off, none⟩ _ hbg).trans ((World.cell?_setCell_far _ ⟨w.heap.size, 0, none⟩ ⟨b, off, none⟩ _ hbg).trans ((hb4.cell hbl).trans q0)))
        ((go_at_call 29; refine (HEA.out _ (by first | exact Below.refl _ _ | exact below_drewN (Below.refl _ _) 1)).mono ?_; rintro e w4 ⟨A4, c4, rfl, q1, q2, q3, hb4, q4⟩; have y4 := HX.out.below (below_of_drewN (n := 1) hb4) HX.out.lt; have e0 := y4.cell 0; have e1 := y4.cell 1; have g0 := y4.frozen 0; have g1 := y4.frozen 1; simp only [List.getElem?_toArray, List.getElem?_cons_zero, List.getElem?_cons_succ] at e0 e1))
      have hb5 : Below w1.heap.size w1 w4 := below_of_drewN (n := 1) hb4
      have z := (y4.set 0 (.int .i64 (at8 l 0))).set 1 (.slice A4 nn c4)
      simp only [List.setIfInBounds_toArray, List.set_cons_zero, List.set_cons_succ] at z
      have z0 := z.cell 0
      have z1 := z.cell 1
      simp only [List.getElem?_toArray, List.getElem?_cons_zero, List.getElem?_cons_succ] at z0 z1
      have hA4 : ∀ a, A4 = some a → w.heap.size ≠ a.block := fun a ha e => by
        have h1 : w1.heap.size ≤ a.block := q4 a ha
        omega
      have hr4 := (q3.off (i := 0) hA4 (.int .i64 (at8 l 0))).off (i := 1) hA4 (.slice A4 nn c4)
      have hbz : Below w.heap.size w ((w4.setCell ⟨w.heap.size, 0, none⟩ (.int .i64 (at8 l 0))).setCell ⟨w.heap.size, 1, none⟩ (.slice A4 nn c4)) := ((bnext HB1.out hb5).setCell (p := ⟨w.heap.size, 0, none⟩) (Nat.le_refl _) _).setCell (p := ⟨w.heap.size, 1, none⟩) (Nat.le_refl _) _
      clear y4 e0 e1 g0 g1 z
      go_wp2_with fail
      refine bodyPost_ret (v := .tuple #[.agg #[.int .i64 (at8 l 0), .slice A4 nn c4], .int .i64 0]) (by simp [results, Tryd.results10, go_sem, z0, z1]) rfl ?_
      refine ⟨A4, c4, ?_, by rw [← HX3.out]; exact q1, by unfold maxLen at q2; omega, ?_, hbz⟩
      · rw [HD.out.2.1, HD.out.2.2, ← HX3.out]
      · rw [← HXE.out]
        simpa using hr4
end Go.Proofs.YtpadlillbofpnaaDoor
