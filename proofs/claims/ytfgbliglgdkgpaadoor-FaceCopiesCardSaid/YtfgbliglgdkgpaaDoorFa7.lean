/- face: New; the document's New. -/
import Derived.Test.YtfgbliglgdkgpaaDoorFa6
namespace Go.Proofs.YtfgbliglgdkgpaaDoor
set_option linter.unusedVariables false
set_option linter.unusedSimpArgs false
open Go.RowKit
set_option maxRecDepth 100000
theorem okL_in {l : List Fc} {j : Nat} (h : ∀ i, i < j → okI l i = true) {f : Fc} (hf : f ∈ l.take j) : okF f = true := by
  obtain ⟨i, hi, he⟩ := List.mem_take_iff_getElem.1 hf
  have := h i (by omega)
  rw [okI_at (f := f) (by rw [← he]; exact List.getElem?_eq_getElem (by omega))] at this
  simp at this
  exact this.1
theorem ls_take {w : World} {B n c j : Nat} {A : Option Addr} {l : List Fc} (h : Rd w B A (fcC l)) : Rd w B A (fcC (l.take j)) := by
  rw [← List.take_append_drop j l] at h
  have e : fcC (l.take j ++ l.drop j) = fcC (l.take j) ++ fcC (l.drop j) := List.flatMap_append ..
  rw [e] at h
  exact h.pre
/-- what New hands back -/
def NewP (l : List Fc) (w : World) (e : Ending) (w' : World) : Prop :=
  ((newE l = 0 ∧ ∃ g v, e = .returned (.tuple #[.pointer (some ⟨g, 0, none⟩), .int .i64 0]) ∧ Fs w' w.heap.size g v l) ∨ (newE l ≠ 0 ∧ e = .returned (.tuple #[.pointer none, .int .i64 (newE l)]))) ∧ Below w.heap.size w w'
theorem newP_bad {l : List Fc} {w w' : World} {k : Int} (h : newE l = k) (hk : k ≠ 0) (hb : Below w.heap.size w w') : NewP l w (.returned (.tuple #[.pointer none, .int .i64 k])) w' := ⟨.inr ⟨by rw [h]; exact hk, by rw [h]⟩, hb⟩

set_option maxHeartbeats 4000000 in
theorem new_any (l : List Fc) (n c B : Nat) (A : Option Addr) (w : World) (hL : Ls w B A n c l) (hB : B ≤ w.heap.size) (hR : RelsAt w) (hn : n ≤ 1000) :
    Calls Tryd.prog 9 #[.slice A n c] w (NewP l w) := by
  have HL := Lib.hid hL
  have HR := Lib.hid hR
  have hcap := hL.cap
  clear hL hR
  by_cases h16 : 16 < n
  · have HE := Lib.hid (show newE l = 3 by unfold newE; rw [if_pos (by rw [HL.out.len]; exact h16)])
    have g1 : decide ((16 : Int) < n) = true := decide_eq_true (by omega)
    have g1' : decide (16 < n) = true := decide_eq_true (by omega)
    go_enter Tryd.func9, Tryd.ntmps9
    go_wp2_with fail
    refine scope_fwd 0 rfl ?_
    go_wp2_with fail
    go_step3
    refine ⟨rfl, ?_⟩
    go_wp2
    rw [Exit.noGoto_ret]
    go_ret2
    exact newP_bad HE.out (by omega) (Below.refl _ _)
  · have g1 : decide ((16 : Int) < n) = false := decide_eq_false (by omega)
    have g1' : decide (16 < n) = false := decide_eq_false (by omega)
    have HNE := Lib.hid (show newE l = if okL l then 0 else 2 by unfold newE; rw [if_neg (by rw [HL.out.len]; exact h16)])
    go_enter Tryd.func9, Tryd.ntmps9
    go_wp2_with fail
    refine scope_fwd 0 rfl ?_
    go_wp2_with fail
    go_loopw [14] (fun i wr => ∃ j : Nat, j ≤ n ∧ i = .int .i64 j ∧ Below w.heap.size w wr ∧ ∀ i, i < j → okI l i = true) (fun i _ => n - (intOf i).toNat)
    case atStart => exact ⟨0, Nat.zero_le _, rfl, Below.refl _ _, fun i hi => by omega⟩
    case round =>
      obtain ⟨j, hj, rfl, hb, hok⟩ := hrel
      have HO := Lib.hid hok
      clear hok
      by_cases hlt : j < n
      · obtain ⟨x, hx⟩ : ∃ x, l[j]? = some x := ⟨l[j]'(by rw [HL.out.len]; exact hlt), List.getElem?_eq_getElem _⟩
        obtain ⟨b, off, rfl, hbb, q0, q1, q2, q3⟩ := fc_at (HL.out.rd.below (hb.mono hB)) hx
        have HX := Lib.hid hx
        have HMEM := Lib.hid (List.mem_of_getElem? hx)
        have HFX := Lib.hid (HL.out.fit x HMEM.out)
        have HIJ := Lib.hid (okI_at hx)
        have HBAD := Lib.hid (show okI l j = false → newE l = 2 from fun h => by rw [HNE.out, okL_no (by rw [HL.out.len]; exact hlt) h]; rfl)
        have HC := Lib.hid (fun W => fcheck_any x.na x.nl x.ad x.up W HFX.out.1 HFX.out.2)
        have HBX := Lib.hid (Blk.new wr 35 (fcA x))
        have HB0 := Lib.hid hb
        have hj0 : (0 : Int) ≤ (j : Int) := by omega
        have hjn : (j : Int) ≤ (c : Int) := by omega
        clear hx hb
        cases hof : okF x
        · have HBD := Lib.hid (HBAD.out (by rw [HIJ.out, hof]; rfl))
          rw [show okF ⟨x.na, x.nl, x.ad, x.up⟩ = false from hof] at HC
          simp only [Bool.false_eq_true, if_false] at HC
          clear hof
          simp only [fcA] at HBX
          go_wp2_with fail
          refine (HC.out _).mono ?_
          rintro e w2 ⟨rfl, b2⟩
          go_wp2_with fail
          go_step3
          refine ⟨rfl, ?_⟩
          go_wp2
          rw [Exit.noGoto_ret]
          go_ret2
          exact newP_bad HBD.out (by omega) (bnext (balloc HB0.out _) b2)
        · rw [show okF ⟨x.na, x.nl, x.ad, x.up⟩ = true from hof] at HC
          simp only [if_true] at HC
          have HF := Lib.hid (fun (w2 : World) (b2 : Below (wr.alloc (.cells (fcA x) 35)).heap.size (wr.alloc (.cells (fcA x) 35)) w2) =>
            ffirst_any (l.take j) j c B (by rw [List.length_take, HL.out.len]; omega) (some ⟨b, off, none⟩) 33 (.pointer (some ⟨wr.heap.size, 0, none⟩)) (fun g => !apB g x) w2
              (ls_take (c := c) (n := n) (HL.out.rd.below ((bnext (balloc HB0.out _) b2).mono hB))) (Nat.le_trans hB (bnext (balloc HB0.out _) b2).size) (by omega) (enters_of Tryd.func33 (by kernel_rfl) rfl)
              (fun W f hW hf => newc_any f x wr.heap.size W (HL.out.fit f (List.mem_of_mem_take hf)) HFX.out (okL_in HO.out hf) hof ((HBX.out.below b2 HBX.out.lt).below hW (HBX.out.below b2 HBX.out.lt).lt) (HR.out.below (bnext (bnext (balloc HB0.out _) b2) hW))))
          have HOF := Lib.hid hof
          clear hof
          simp only [fcA] at HBX HF
          cases hany : (l.take j).any (fun g => !apB g x)
          all_goals
            rw [hany] at HF HIJ
            have HAN := Lib.hid hany
            clear hany
            go_wp2_with fail
            refine (HC.out _).mono ?_
            rintro e w2 ⟨rfl, b2⟩
            go_wp2_with fail
            refine (HF.out w2 b2).mono ?_
            rintro e w3 ⟨rfl, b3⟩
            go_wp2_with fail
          · go_roundw
            case rel =>
              refine ⟨j + 1, by omega, by go_num, bnext (bnext (balloc HB0.out _) b2) b3, fun i hi => ?_⟩
              by_cases h : i < j
              · exact HO.out i h
              · obtain rfl : i = j := by omega
                rw [HIJ.out, HOF.out]; rfl
            case measure => simp [intOf]; omega
          · go_step3
            refine ⟨rfl, ?_⟩
            go_wp2
            rw [Exit.noGoto_ret]
            go_ret2
            exact newP_bad (HBAD.out (by rw [HIJ.out]; simp)) (by omega) (bnext (bnext (balloc HB0.out _) b2) b3)
      · obtain rfl : j = n := by omega
        have HNE2 := Lib.hid (show newE l = 0 by rw [HNE.out, okL_yes (fun i hi => HO.out i (by rw [← HL.out.len]; exact hi))]; rfl)
        have HCL := Lib.hid (fclone_any l j HL.out.len A c B wr (HL.out.rd.below (hb.mono hB)) (by omega) (Nat.le_trans hB hb.size))
        go_wp2_with fail
        refine HCL.out.mono ?_
        rintro e w2 ⟨v, rfl, ho, b2⟩
        obtain ⟨A1, c1, rfl, _⟩ := own_row ho
        go_wp2_with fail
        rw [jump_ret]
        go_ret2
        refine ⟨.inl ⟨HNE2.out, w2.heap.size, _, rfl, ⟨Blk.new w2 _ _, ?_, Nat.le_trans hb.size b2.size, by rw [HL.out.len]; omega, HL.out.fit, fun k hk => by have := (own_lt ho) k hk; omega⟩⟩, balloc (bnext hb b2) _⟩
        rw [HL.out.len]
        exact own_keep (own_below ho (balloc (Below.refl _ _) _)) hb.size (fun _ _ _ => rfl)
end Go.Proofs.YtfgbliglgdkgpaaDoor
