/- The document's flight: Late, Count. -/
import Derived.Test.YtgdkobknjgbdbaaFlT
namespace Go.Proofs.Ytgdkobknjgbdbaa
set_option linter.unusedVariables false
set_option linter.unusedSimpArgs false
open Go.RowKit
set_option maxRecDepth 100000

theorem reflt_bad (now delay : Int) (room lost : Nat) (n k : Nat) (A : Option Addr) (w : World) (hd : delay < 0) :
    Calls Try.prog 42 #[.agg #[.slice A n k, .int .i64 room, .int .i64 lost], .int .i64 now, .int .i64 delay] w fun e w' => e = .returned (.tuple #[.agg #[.slice A n k, .int .i64 room, .int .i64 lost], .agg #[.int .i64 0, .int .i64 0, .int .i64 0, .int .u32 0, .slice none 0 0, .int .i64 0], .int .i64 2]) ∧ Below w.heap.size w w' := by
  go_enter Try.func42, Try.ntmps42
  go_wp2_with fail
  refine bodyPost_ret (v := .tuple #[.agg #[.slice A n k, .int .i64 room, .int .i64 lost], .agg #[.int .i64 0, .int .i64 0, .int .i64 0, .int .u32 0, .slice none 0 0, .int .i64 0], .int .i64 2]) (by simp [results, Try.results42, go_sem]) rfl ⟨rfl, by go_grown⟩

/-- what Late hands back: the first mail that is late, or an error -/
def GivesL (rs : List Ml) (now delay : Int) (n k : Nat) (A : Option Addr) (room lost : Nat) (w : World) (e : Ending) (w' : World) : Prop :=
  (∃ r A' c', rs[fstL now delay (msL rs)]? = some r ∧ e = .returned (.tuple #[.agg #[.slice A' (n - 1) c', .int .i64 room, .int .i64 lost], .agg (mlA r), .int .i64 0]) ∧ NewRow w w' (mlC (rs.eraseIdx (fstL now delay (msL rs)))) A' (n - 1) c' ∧ Below w.heap.size w w') ∨
    (fstL now delay (msL rs) = rs.length ∧ e = .returned (.tuple #[.agg #[.slice A n k, .int .i64 room, .int .i64 lost], .agg #[.int .i64 0, .int .i64 0, .int .i64 0, .int .u32 0, .slice none 0 0, .int .i64 0], .int .i64 5]) ∧ Below w.heap.size w w')

set_option maxHeartbeats 8000000 in
theorem reflt_any (now delay : Int) (room lost : Nat) (rs : List Ml) (n k : Nat) (hnn : rs.length = n) (A : Option Addr) (w : World) (hR : Rd w w.heap.size A (mlC rs)) (hn : n ≤ 512) (hnk : n ≤ k) (hk : k ≤ 9223372036854775807) (hd : 0 ≤ delay) (hnow : now ≤ 9223372036854775807) (hs : ∀ r ∈ rs, 0 ≤ r.m.sent) :
    Calls Try.prog 42 #[.agg #[.slice A n k, .int .i64 room, .int .i64 lost], .int .i64 now, .int .i64 delay] w (GivesL rs now delay n k A room lost w) := by
  have x0 := ((Blk.new w 49 #[.slice A n k, .int .i64 room, .int .i64 lost]).alloc (.cells #[.slice none 0 0, .int .i64 0, .int .i64 0] 49)).alloc (.cells #[.int .i64 0, .int .i64 0, .int .i64 0, .int .u32 0, .slice none 0 0, .int .i64 0] 33)
  have x1 := (Blk.new (w.alloc (.cells #[.slice A n k, .int .i64 room, .int .i64 lost] 49)) 49 #[.slice none 0 0, .int .i64 0, .int .i64 0]).alloc (.cells #[.int .i64 0, .int .i64 0, .int .i64 0, .int .u32 0, .slice none 0 0, .int .i64 0] 33)
  have x2 := Blk.new ((w.alloc (.cells #[.slice A n k, .int .i64 room, .int .i64 lost] 49)).alloc (.cells #[.slice none 0 0, .int .i64 0, .int .i64 0] 49)) 33 #[.int .i64 0, .int .i64 0, .int .i64 0, .int .u32 0, .slice none 0 0, .int .i64 0]
  simp only [World.size_alloc] at x1 x2
  have B0 : Below w.heap.size w (((w.alloc (.cells #[.slice A n k, .int .i64 room, .int .i64 lost] 49)).alloc (.cells #[.slice none 0 0, .int .i64 0, .int .i64 0] 49)).alloc (.cells #[.int .i64 0, .int .i64 0, .int .i64 0, .int .u32 0, .slice none 0 0, .int .i64 0] 33)) := balloc (balloc (balloc (Below.refl _ _) _) _) _
  have X := Lib.hid (And.intro x0 (And.intro x1 (And.intro x2 B0)))
  have HR := Lib.hid hR
  have HN := Lib.hid hnn
  have HS := Lib.hid hs
  have HWO := Lib.hid (fun W i (hW : Below w.heap.size w W) (hi : i < n) => without_any room lost rs n k i hnn A W ((hR.below hW).more hW.size) hi hn hnk hk)
  clear hR hnn hs x0 x1 x2 B0
  go_enter Try.func42, Try.ntmps42
  go_wp2_with fail
  have HX0 := Lib.hid X.out.1
  have HX1 := Lib.hid X.out.2.1
  have HX2 := Lib.hid X.out.2.2.1
  have HB2 := Lib.hid X.out.2.2.2
  have hs2 : w.heap.size + 3 ≤ (((w.alloc (.cells #[.slice A n k, .int .i64 room, .int .i64 lost] 49)).alloc (.cells #[.slice none 0 0, .int .i64 0, .int .i64 0] 49)).alloc (.cells #[.int .i64 0, .int .i64 0, .int .i64 0, .int .u32 0, .slice none 0 0, .int .i64 0] 33)).heap.size := by simp
  clear X
  generalize ((w.alloc (.cells #[.slice A n k, .int .i64 room, .int .i64 lost] 49)).alloc (.cells #[.slice none 0 0, .int .i64 0, .int .i64 0] 49)).alloc (.cells #[.int .i64 0, .int .i64 0, .int .i64 0, .int .u32 0, .slice none 0 0, .int .i64 0] 33) = w2 at *
  go_loopw [9] (fun i wr => ∃ c : Nat, c ≤ n ∧ i = .int .i64 c ∧ Below w2.heap.size w2 wr ∧ Hid (∀ j, (hj : j < c) → (hl : j < rs.length) → lateM now delay rs[j].m = false)) (fun i _ => n - (intOf i).toNat)
  case atStart => exact ⟨0, by omega, rfl, Below.refl _ _, Lib.hid (fun j hj => absurd hj (by omega))⟩
  case round =>
    obtain ⟨c, hc, rfl, hb, HO⟩ := hrel
    obtain ⟨q0, q1, q2⟩ := (HX0.out.below hb HX0.out.lt).three
    by_cases hlt : c < n
    · have hcl : c < rs.length := by have := HN.out; omega
      have bw : Below w.heap.size w wr := bnext HB2.out hb
      obtain ⟨b, off, rfl, hbb, c0, c1, c2, c3, c4, c5⟩ := ml_at (HR.out.below bw) (List.getElem?_eq_getElem hcl)
      have hS := HS.out rs[c] (List.getElem_mem hcl)
      have HL := Lib.hid (show lateM now delay rs[c].m = false → ∀ j, (hj : j < c + 1) → (hl : j < rs.length) → lateM now delay rs[j].m = false from fun h j hj hl => by
        rcases Nat.lt_or_ge j c with h' | h'
        · exact HO.out j h' hl
        · obtain rfl : j = c := by omega
          exact h)
      have HF := Lib.hid (show lateM now delay rs[c].m = true → fstL now delay (msL rs) = c from fun h =>
        fst_found (L := msL rs) (now := now) (delay := delay) (c := c) (by rw [msL_len]; exact hcl) (fun i hi => by rw [msL_get rs i (by omega)]; exact HO.out i hi (by omega)) (by rw [msL_get rs c hcl]; exact h))
      rw [show lateM now delay rs[c].m = lateB rs[c].m.sent now delay from rfl] at HL HF
      have HG := Lib.hid (List.getElem?_eq_getElem hcl)
      have hi1 : (c : Int) < (n : Int) := by omega
      have hi2 : (0 : Int) ≤ (c : Int) := by omega
      have hw' := hb.size
      generalize rs[c] = r at *
      have HLA := Lib.hid (fun W => reflate_any r.m.link r.m.frm r.m.dst r.m.src r.A r.m.bs.length r.c r.m.sent now delay W hS hnow)
      cases hq : lateB r.m.sent now delay
      · rw [hq] at HLA HL
        go_wp2_with fail
        refine (HLA.out _).mono ?_
        rintro e w1 ⟨rfl, b1⟩
        have b2 := bnext hb b1
        go_wp2_with fail
        go_roundw
        case rel => exact ⟨c + 1, by omega, by go_num, b2, Lib.hid (HL.out (by first | rfl | trivial))⟩
        case measure => simp [intOf]; omega
      · rw [hq] at HLA HF
        have HFC := Lib.hid (HF.out rfl)
        clear HL HF
        go_wp2_with fail
        refine (HLA.out _).mono ?_
        rintro e w1 ⟨rfl, b1⟩
        have b2 := bnext hb b1
        have HBB := Lib.hid (bnext HB2.out b2)
        have g0 := (b1.cell (p := ⟨b, off + c * 6, none⟩) (Nat.lt_of_lt_of_le hbb bw.size)).trans c0
        have g1 := (b1.cell (p := ⟨b, off + c * 6 + 1, none⟩) (Nat.lt_of_lt_of_le hbb bw.size)).trans c1
        have g2 := (b1.cell (p := ⟨b, off + c * 6 + 2, none⟩) (Nat.lt_of_lt_of_le hbb bw.size)).trans c2
        have g3 := (b1.cell (p := ⟨b, off + c * 6 + 3, none⟩) (Nat.lt_of_lt_of_le hbb bw.size)).trans c3
        have g4 := (b1.cell (p := ⟨b, off + c * 6 + 4, none⟩) (Nat.lt_of_lt_of_le hbb bw.size)).trans c4
        have g5 := (b1.cell (p := ⟨b, off + c * 6 + 5, none⟩) (Nat.lt_of_lt_of_le hbb bw.size)).trans c5
        have Y0 := Lib.hid (HX0.out.below b2 HX0.out.lt)
        have Y1 := Lib.hid (HX1.out.below b2 HX1.out.lt)
        have Y2 := Lib.hid (HX2.out.below b2 HX2.out.lt)
        obtain ⟨d0, d1, d2⟩ := Y0.out.three
        have hbz : b < w1.heap.size := Nat.lt_of_lt_of_le hbb HBB.out.size
        have hsz1 := b2.size
        clear c0 c1 c2 c3 c4 c5 q0 q1 q2 bw
        go_wp2_with fail
        go_region_with
          (first
          | (go_at_call 52; refine (HWO.out w1.drew c (Below.drew HBB.out) hlt).mono ?_; rintro e w3 ⟨A3, c3, rfl, hnr, hb3⟩; have hb3' := below_of_drewN (n := 1) hb3; obtain ⟨q0, q1, q2⟩ := (Y0.out.below hb3' Y0.out.lt).three; obtain ⟨k0, k1, k2⟩ := (Y1.out.below hb3' Y1.out.lt).three; obtain ⟨l0, l1, l2⟩ := (Y1.out.below hb3' Y1.out.lt).ice3; obtain ⟨m0, m1, m2, m3, m4, m5⟩ := (Y2.out.below hb3' Y2.out.lt).six; obtain ⟨i0, i1, i2, i3, i4, i5⟩ := (Y2.out.below hb3' Y2.out.lt).ice6; have r0 := (hb3'.cell (p := ⟨b, off + c * 6, none⟩) hbz).trans g0; have r1 := (hb3'.cell (p := ⟨b, off + c * 6 + 1, none⟩) hbz).trans g1; have r2 := (hb3'.cell (p := ⟨b, off + c * 6 + 2, none⟩) hbz).trans g2; have r3 := (hb3'.cell (p := ⟨b, off + c * 6 + 3, none⟩) hbz).trans g3; have r4 := (hb3'.cell (p := ⟨b, off + c * 6 + 4, none⟩) hbz).trans g4; have r5 := (hb3'.cell (p := ⟨b, off + c * 6 + 5, none⟩) hbz).trans g5))
        all_goals
          go_wp2
          refine bodyPost_ret (v := .tuple #[.agg #[.slice A3 (n - 1) c3, .int .i64 room, .int .i64 lost], .agg (mlA r), .int .i64 0]) (by simp [results, Try.results42, go_sem, mlA, k0, k1, k2, m0, m1, m2, m3, m4, m5]) rfl ?_
          have fin := fun {w6 : World} fE => take_fin19 (w6 := w6) (room := room) (lost := lost) (r := mlA r) HBB.out (show w.heap.size + 1 ≤ w.heap.size + 1 + 1 by omega) (by omega) hnr hb3 fE
          refine .inl ?_
          rw [HFC.out]
          first
          | (obtain ⟨A', c', z1, z2⟩ := fin (((((((((Fr.refl.putA 0 _).putA 1 _).putA 2 _).putB 0 _).putB 1 _).putB 2 _).putB 3 _).putB 4 _).putB 5 _); exact ⟨r, A', c', HG.out, z1, z2⟩)
          | (obtain ⟨A', c', z1, z2⟩ := fin (((((((((Fr.refl.putB 0 _).putB 1 _).putB 2 _).putB 3 _).putB 4 _).putB 5 _).putA 0 _).putA 1 _).putA 2 _); exact ⟨r, A', c', HG.out, z1, z2⟩)
    · obtain rfl : c = n := by omega
      obtain ⟨k0, k1, k2⟩ := (HX1.out.below hb HX1.out.lt).three
      obtain ⟨l0, l1, l2⟩ := (HX1.out.below hb HX1.out.lt).ice3
      obtain ⟨m0, m1, m2, m3, m4, m5⟩ := (HX2.out.below hb HX2.out.lt).six
      obtain ⟨i0, i1, i2, i3, i4, i5⟩ := (HX2.out.below hb HX2.out.lt).ice6
      have bE := bnext HB2.out hb
      have HE := Lib.hid (show fstL now delay (msL rs) = rs.length by
        rw [fst_none (L := msL rs) (fun i hi => by rw [msL_len] at hi; rw [msL_get rs i hi]; exact HO.out i (by have := HN.out; omega) hi), msL_len])
      go_wp2_with fail
      refine bodyPost_ret (v := .tuple #[.agg #[.slice A c k, .int .i64 room, .int .i64 lost], .agg #[.int .i64 0, .int .i64 0, .int .i64 0, .int .u32 0, .slice none 0 0, .int .i64 0], .int .i64 5]) (by simp [results, Try.results42, go_sem, k0, k1, k2, m0, m1, m2, m3, m4, m5]) rfl (.inr ⟨HE.out, rfl, ?_⟩)
      have hz := bE.size
      go_grown

set_option maxHeartbeats 1000000 in
theorem refcount_any (now delay : Int) (room lost : Nat) (rs : List Ml) (n k : Nat) (hnn : rs.length = n) (A : Option Addr) (w : World) (hR : Rd w w.heap.size A (mlC rs)) (hn : n ≤ 512) (hnk : n ≤ k) (hk : k ≤ 9223372036854775807) (hnow : now ≤ 9223372036854775807) (hs : ∀ r ∈ rs, 0 ≤ r.m.sent) :
    Calls Try.prog 43 #[.agg #[.slice A n k, .int .i64 room, .int .i64 lost], .int .i64 now, .int .i64 delay] w fun e w' => e = .returned (.int .i64 (cntN now delay (msL rs) : Nat)) ∧ Below w.heap.size w w' := by
  have HX0 := Lib.hid (Blk.new w 49 #[.slice A n k, .int .i64 room, .int .i64 lost])
  have HB0 := Lib.hid (show Below w.heap.size w (w.alloc (.cells #[.slice A n k, .int .i64 room, .int .i64 lost] 49)) from balloc (Below.refl _ _) _)
  have HR := Lib.hid hR
  have HN := Lib.hid hnn
  have HS := Lib.hid hs
  clear hR hnn hs
  by_cases h0 : delay < 0
  · have hc : cntN now delay (msL rs) = 0 := by simp [cntN, h0]
    rw [hc]
    have h0' : decide (0 ≤ delay) = false := decide_eq_false (by omega)
    clear hc
    obtain ⟨q0, q1, q2⟩ := HX0.out.three
    by_cases hz : 0 < n
    · have hz2 : (0 : Int) < n := by omega
      go_enter Try.func43, Try.ntmps43
      go_wp2_with fail
      refine wp_loop_rounds 1 ?_
      rw [rounds_succ]
      go_wp2_with fail
      go_ret
      exact ⟨rfl, HB0.out⟩
    · obtain rfl : n = 0 := by omega
      go_enter Try.func43, Try.ntmps43
      go_wp2_with fail
      refine wp_loop_rounds 1 ?_
      rw [rounds_succ]
      go_wp2_with fail
      go_ret
      exact ⟨rfl, HB0.out⟩
  have h0' : 0 ≤ delay := by omega
  have HC := Lib.hid (show cntN now delay (msL rs) = ((msL rs).filter (lateM now delay)).length by simp [cntN, h0])
  clear h0
  go_enter Try.func43, Try.ntmps43
  go_wp2_with fail
  obtain ⟨w0, hw0⟩ : ∃ w0, w0 = w.alloc (.cells #[.slice A n k, .int .i64 room, .int .i64 lost] 49) := ⟨_, rfl⟩
  rw [← hw0] at HX0 HB0 ⊢
  clear hw0
  go_loopw [7, 8] (fun u i wr => ∃ k : Nat, k ≤ n ∧ i = .int .i64 k ∧ Below w0.heap.size w0 wr ∧ ∃ q : Nat, q ≤ k ∧ u = .int .i64 q ∧ Hid (q = (((msL rs).take k).filter (lateM now delay)).length)) (fun _ i _ => n - (intOf i).toNat)
  case atStart => exact ⟨0, by omega, rfl, Below.refl _ _, 0, by omega, rfl, Lib.hid (by simp)⟩
  case round =>
    obtain ⟨c, hc, rfl, hb, q, hq, rfl, HQ⟩ := hrel
    obtain ⟨q0, q1, q2⟩ := (HX0.out.below hb HX0.out.lt).three
    by_cases hlt : c < n
    · have hcl : c < rs.length := by have := HN.out; omega
      obtain ⟨b, off, rfl, hbb, c0, c1, c2, c3, c4, c5⟩ := ml_at (HR.out.below (bnext HB0.out hb)) (List.getElem?_eq_getElem hcl)
      have hS := HS.out rs[c] (List.getElem_mem hcl)
      have hf := filt_snoc (lateM now delay) (msL rs) c (by rw [msL_len]; exact hcl)
      rw [msL_get rs c hcl, show lateM now delay rs[c].m = lateB rs[c].m.sent now delay from rfl] at hf
      have HF2 := Lib.hid hf
      have hi1 : (c : Int) < (n : Int) := by omega
      clear hf
      generalize rs[c] = r at *
      have HLA := Lib.hid (fun W => reflate_any r.m.link r.m.frm r.m.dst r.m.src r.A r.m.bs.length r.c r.m.sent now delay W hS hnow)
      cases hq2 : lateB r.m.sent now delay
      · rw [hq2] at HLA HF2
        go_wp2_with fail
        refine (HLA.out _).mono ?_
        rintro e w1 ⟨rfl, b1⟩
        have b2 := bnext hb b1
        go_wp2_with fail
        go_roundw
        case rel => exact ⟨c + 1, by omega, by go_num, b2, q, by omega, rfl, by have := HF2.out; simp at this; rw [this]; exact HQ.out⟩
        case measure => simp [intOf]; omega
      · rw [hq2] at HLA HF2
        go_wp2_with fail
        refine (HLA.out _).mono ?_
        rintro e w1 ⟨rfl, b1⟩
        have b2 := bnext hb b1
        go_wp2_with fail
        go_roundw
        case rel => exact ⟨c + 1, by omega, by go_num, b2, q + 1, by omega, by go_num, by have := HF2.out; simp at this; rw [this]; exact congrArg (· + 1) HQ.out⟩
        case measure => simp [intOf]; omega
    · obtain rfl : c = n := by omega
      go_wp2_with fail
      go_ret
      have e : q = cntN now delay (msL rs) := by rw [HC.out, HQ.out, List.take_of_length_le (by rw [msL_len, HN.out]; omega)]
      exact ⟨by rw [← e]; rfl, bnext HB0.out hb⟩
end Go.Proofs.Ytgdkobknjgbdbaa
