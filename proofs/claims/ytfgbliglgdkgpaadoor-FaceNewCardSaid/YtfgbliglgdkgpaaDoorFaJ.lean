/- FaceNew: the walk. -/
import Derived.Test.YtfgbliglgdkgpaaDoorFaI
namespace Go.Proofs.YtfgbliglgdkgpaaDoor
set_option linter.unusedVariables false
set_option linter.unusedSimpArgs false
open Go.RowKit
set_option maxRecDepth 100000
/-- a row of faces that is changed, and nothing beside it -/
def FlipR (w4 : World) (A1 : Option Addr) (n c1 base : Nat) (wr : World) : Prop := ∃ l' : List Fc, l'.length = n ∧ wr.ownsRow base 35 4 (.slice A1 n c1) n (fcC l') ∧ Fr (fun k => ∀ a, A1 = some a → k ≠ a.block) w4 wr
theorem flip_step {w4 wr : World} {A1 : Option Addr} {n c1 base j : Nat} (h : FlipR w4 A1 n c1 base wr) (hj : j < n) : ∃ gb, A1 = some ⟨gb, 0, none⟩ ∧ base ≤ gb ∧ wr.frozen? ⟨gb, j * 4 + 3, none⟩ = false ∧ ∃ up, wr.cell? ⟨gb, j * 4 + 3, none⟩ = some (.bool up) ∧ FlipR w4 A1 n c1 base (wr.setCell ⟨gb, j * 4 + 3, none⟩ (.bool (!up))) := by
  obtain ⟨l', hl, ho, hf⟩ := h
  obtain ⟨gb, cap, hv, hg⟩ := own_form ho (by omega)
  injection hv with e1 e2 e3
  subst e1 e3
  obtain ⟨x, hx⟩ : ∃ x, l'[j]? = some x := ⟨_, List.getElem?_eq_getElem (by rw [hl]; exact hj)⟩
  have hfz := ho.frozenAt (j * 4 + 3)
  have hcl := ho.cellAt (j * 4 + 3) (by omega)
  rw [fcC_up hx] at hcl
  have hst := (ho.stored (j * 4 + 3) (.bool (!x.up))).1
  rw [fcC_set hx] at hst
  refine ⟨gb, rfl, hg, hfz, x.up, hcl, _, by rw [List.length_set]; exact hl, hst, Fr.trans hf (Fr.set (a := ⟨gb, j * 4 + 3, none⟩) (fun k hk => hk ⟨gb, 0, none⟩ rfl) _)⟩
theorem FlipR.fs {w4 wr : World} {A1 : Option Addr} {n c1 base n0 g : Nat} {v : Value} {l : List Fc} (h : FlipR w4 A1 n c1 base wr) (hA : ∀ a, A1 = some a → a.block < n0) (hF : Fs w4 n0 g v l) : Fs wr n0 g v l := by
  obtain ⟨_, _, _, hf⟩ := h
  refine hF.fr hf (fun a ha => ?_) (fun k hk a ha => ?_)
  · have := hA a ha; have := hF.ge; omega
  · have := hA a ha; have := own_base' hF.own k hk; omega
theorem FlipR.below {w4 wr : World} {A1 : Option Addr} {n c1 base : Nat} (h : FlipR w4 A1 n c1 base wr) {B : Nat} (hA : ∀ a, A1 = some a → B ≤ a.block) (hB : B ≤ w4.heap.size) : Below B w4 wr := by
  obtain ⟨_, _, _, hf⟩ := h
  exact Fr.below hf hB (fun b hb a ha => by have := hA a ha; omega)
theorem newE_20 {l : List Fc} : newE l = 0 ∨ (newE l ≠ 0 ∧ ((newE l : Int) != 0) = true ∧ ((newE l : Int) == 0) = false) := by
  by_cases h : newE l = 0
  · exact .inl h
  · exact .inr ⟨h, by rw [bne_iff_ne]; exact h, by rw [beq_eq_false_iff_ne]; exact h⟩

set_option maxHeartbeats 8000000 in
theorem facenew_walk (l : List Fc) (n c : Nat) (A : Option Addr) (w : World) (hL : Ls w w.heap.size A n c l) (hR : RelsAt w) :
    Calls Tryd.prog 4 #[.slice A n c] w fun e w' => e = .returned (.bool true) ∧ Below w.heap.size w w' := by
  obtain ⟨i0, hi0, hz0, hz1, hz2⟩ := info_parts fc_info
  have HL := Lib.hid hL
  have hcap := hL.cap
  have HWK := Lib.hid (fun W (hb : Below w.heap.size w W) => works9_any W (hR.below hb))
  have HR := Lib.hid hR
  clear hL hR
  by_cases h20 : 20 < n
  · have g1 : decide ((20 : Int) < n) = true := decide_eq_true (by omega)
    have g1' : decide (20 < n) = true := decide_eq_true (by omega)
    go_enter Tryd.func4, Tryd.ntmps4
    go_wp2_with fail
    refine (HWK.out _ (Below.refl _ _)).mono ?_
    rintro e w1 ⟨rfl, b1⟩
    go_wp2_with fail
    go_ret
    exact ⟨rfl, b1⟩
  have g1 : decide ((20 : Int) < n) = false := decide_eq_false (by omega)
  have g1' : decide (20 < n) = false := decide_eq_false (by omega)
  go_enter Tryd.func4, Tryd.ntmps4
  go_wp2_with fail
  go_loopw [3] (fun i wr => ∃ j : Nat, j ≤ n ∧ i = .int .i64 j ∧ Below w.heap.size w wr) (fun i _ => n - (intOf i).toNat)
  case atStart => exact ⟨0, Nat.zero_le _, rfl, Below.refl _ _⟩
  case round =>
    obtain ⟨j, hj, rfl, hb⟩ := hrel
    have HB := Lib.hid hb
    clear hb
    by_cases hlt : j < n
    · obtain ⟨x, hx⟩ : ∃ x, l[j]? = some x := ⟨l[j]'(by rw [HL.out.len]; exact hlt), List.getElem?_eq_getElem _⟩
      obtain ⟨b, off, rfl, _, q0, q1, q2, q3⟩ := fc_at (HL.out.rd.below HB.out) hx
      have hfit := HL.out.fit x (List.mem_of_getElem? hx)
      obtain ⟨na, nl, ad, up⟩ := x
      simp only at q0 q1 q2 q3
      have HC := Lib.hid (fun W => fcheck_any na nl ad up W hfit.1 hfit.2)
      have HRT := Lib.hid (fun W => right9_any na nl ad up W hfit.1 hfit.2)
      have bl := cell_lt q0
      have hj2 : (0 : Int) ≤ (j : Int) ∧ (j : Int) < (n : Int) := by omega
      clear hx hfit
      cases hof : okF ⟨na, nl, ad, up⟩
      all_goals
        rw [hof] at HC HRT
        clear hof
        simp only [Bool.false_eq_true, if_false, if_true] at HC
        go_wp2_with fail
        refine (HC.out _).mono ?_
        rintro e w2 ⟨rfl, b2⟩
        have r0 := (b2.cell bl).trans q0
        have r1 := (b2.cell (p := ⟨b, off + j * 4 + 1, none⟩) bl).trans q1
        have r2 := (b2.cell (p := ⟨b, off + j * 4 + 2, none⟩) bl).trans q2
        have r3 := (b2.cell (p := ⟨b, off + j * 4 + 3, none⟩) bl).trans q3
        have hc2 := bnext HB.out b2
        go_wp2_with (go_at_call 10; refine (num_any _ _).mono ?_; rintro e w' ⟨rfl, rfl⟩)
        refine (HRT.out _).mono ?_
        rintro e w3 ⟨rfl, b3⟩
        go_wp2_with fail
        go_roundw
        case rel => exact ⟨j + 1, by omega, by go_num, bnext hc2 b3⟩
        case measure => simp [intOf]; omega
    · obtain rfl : j = n := by omega
      obtain ⟨wo, rfl⟩ : ∃ x, x = wr := ⟨_, rfl⟩
      have hsz := HB.out.size
      have HRD := Lib.hid ((HL.out.rd.below HB.out).alloc hsz (.cells #[] 35))
      have HLEN := Lib.hid HL.out.len
      go_wp2_with (at_builtin; refine wpList_append_rd rfl (.tmp 42) (.tmp 43) _ rfl wo.heap.size 35 i0 _ 4 24 Tryd.underlying22 hi0 hz0 hz1 hz2 rfl (by omega) (.slice (some ⟨wo.heap.size, 0, none⟩) 0 0) 0 [] rfl (World.ownsRow_lit wo #[] 0 (Nat.le_refl _) (by simp [maxLen]) (by simp)) j c (fcC l) rfl (by rw [fcC_len, HLEN.out]) HRD.out (fcC_one l) (by simp only [maxLen]; omega) (by omega) (by simp) ?_; intro v1 w3 ho1 hg1 ha1; simp only [Nat.zero_add, List.nil_append] at ho1; obtain ⟨A1, c1, rfl, h1, h2, h3, h4⟩ := own_row ho1)
      have hb3 : Below wo.heap.size wo w3 := ((Below.refl _ _).alloc (Nat.le_refl _) _).grown hg1 (by simp) (by simp [Value.ownBlock])
      have HB3 := Lib.hid (bnext HB.out hb3)
      have HO := Lib.hid ho1
      have HA1 := Lib.hid (fun (a : Addr) (ha : A1 = some a) => h4 a ha)
      have HLT := Lib.hid (own_lt ho1)
      have HNW := Lib.hid (new_any l j c1 w3.heap.size A1 w3 ⟨HL.out.len, ⟨h1, by unfold maxLen at h2; omega⟩, h3, HL.out.fit⟩ (Nat.le_refl _) (HR.out.below HB3.out) (by omega))
      have hc1 : j ≤ c1 ∧ c1 ≤ 9223372036854775807 := ⟨h1, by unfold maxLen at h2; omega⟩
      clear ho1 hg1 ha1 h3 h4 h2 h1 hb3 HRD
      refine HNW.out.mono ?_
      rintro e w4 ⟨hcase, b4⟩
      have HB4 := Lib.hid (bnext HB3.out b4)
      have HRN := Lib.hid (refNew_any l j c w.heap.size A w4 (HL.out.below HB4.out) HB4.out.size (by omega))
      have HFL : Hid (FlipR w4 A1 j c1 wo.heap.size w4) := Lib.hid ⟨l, HL.out.len, own_keep HO.out (Nat.le_refl _) (fun k hk hl => b4.block k hl), Fr.refl⟩
      have HA2 := Lib.hid (fun (a : Addr) (ha : A1 = some a) => HLT.out a.block (by subst ha; rfl))
      have hw4 := HB4.out.size
      clear HNW HO b4
      rcases hcase with ⟨h0, g, v, rfl, hF⟩ | ⟨hno, rfl⟩
      case' inl =>
        rw [h0] at HRN
        have HF := Lib.hid hF
        clear hF h0
      case' inr =>
        obtain ⟨z, hz⟩ : ∃ z, z = newE l := ⟨_, rfl⟩
        rw [← hz] at hno HRN ⊢
        have hz1 : ((z : Int) != 0) = true := by rw [bne_iff_ne]; exact hno
        have hz2 : ((z : Int) == 0) = false := by rw [beq_eq_false_iff_ne]; exact hno
        have hz3 : ((z : Int) != z) = false := by simp
        clear hz hno
      all_goals
        go_wp2_with fail
        refine HRN.out.mono ?_
        rintro e w5 ⟨rfl, b5⟩
        have HB5 := Lib.hid (bnext HB4.out b5)
        have HFL5 : Hid (FlipR w5 A1 j c1 wo.heap.size w5) := Lib.hid (by
          obtain ⟨l', q1, q2, _⟩ := HFL.out
          exact ⟨l', q1, own_keep q2 (Nat.le_refl _) (fun k hk hl => b5.block k hl), Fr.refl⟩)
        go_wp2_with (go_at_call 10; refine (num_any _ _).mono ?_; rintro e w' ⟨rfl, rfl⟩)
        go_loopw [9] (fun i wr => ∃ k : Nat, k ≤ j ∧ i = .int .i64 k ∧ FlipR w5 A1 j c1 wo.heap.size wr) (fun i _ => j - (intOf i).toNat)
        case atStart => exact ⟨0, Nat.zero_le _, rfl, HFL5.out⟩
        case round =>
          obtain ⟨k, hk, rfl, hfl⟩ := hrel
          by_cases hlk : k < j
          · obtain ⟨gb, hA, hgb, hfz, up, hcl, hnx⟩ := flip_step hfl hlk
            have HNX := Lib.hid hnx
            subst hA
            have hk2 : (0 : Int) ≤ (k : Int) ∧ (k : Int) < (j : Int) := by omega
            clear hfl hnx
            go_wp2_with fail
            go_roundw
            case rel => exact ⟨k + 1, by omega, by go_num, by simpa using HNX.out⟩
            case measure => simp [intOf]; omega
          · obtain rfl : k = j := by omega
            have HBQ := Lib.hid (HB5.out.trans (hfl.below (fun a ha => Nat.le_trans hsz (HA1.out a ha)) HB5.out.size))
            have HFQ := Lib.hid hfl
            clear hfl
            first
            | (have HIS := Lib.hid (is9_any (w := wr) (HFQ.out.fs (fun a ha => HA2.out a ha) (HF.out.below b5)) (HL.out.next HBQ.out))
               go_wp2_with (go_at_call 17; refine HIS.out.mono ?_; rintro e w6 ⟨rfl, b6⟩)
               refine (HWK.out _ (bnext HBQ.out b6)).mono ?_
               rintro e w7 ⟨rfl, b7⟩
               go_wp2_with fail
               go_ret
               exact ⟨rfl, bnext (bnext HBQ.out b6) b7⟩)
            | (go_wp2_with fail
               refine (HWK.out _ HBQ.out).mono ?_
               rintro e w7 ⟨rfl, b7⟩
               go_wp2_with fail
               go_ret
               exact ⟨rfl, bnext HBQ.out b7⟩)
end Go.Proofs.YtfgbliglgdkgpaaDoor
