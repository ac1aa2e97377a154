/- FacePlays: the walk. -/
import Derived.Test.YtfgbliglgdkgpaaDoorFaI
namespace Go.Proofs.YtfgbliglgdkgpaaDoor
set_option linter.unusedVariables false
set_option linter.unusedSimpArgs false
open Go.RowKit
set_option maxRecDepth 100000
def ac9C (l : List Ac9) : List Value := l.flatMap ac9L
theorem ac9_at {w : World} {B : Nat} {A : Option Addr} {l : List Ac9} (h : Rd w B A (ac9C l)) {i : Nat} {x : Ac9} (hi : l[i]? = some x) :
    ∃ b off, A = some ⟨b, off, none⟩ ∧ b < B ∧ w.cell? ⟨b, off + i * 3, none⟩ = some (.int .i64 x.wh) ∧ w.cell? ⟨b, off + i * 3 + 1, none⟩ = some (.int .i64 x.i) ∧ w.cell? ⟨b, off + i * 3 + 2, none⟩ = some (.bool x.up) := by
  obtain ⟨b, off, e, hb, hc⟩ := rows_at ac9L_len (by omega) h hi
  refine ⟨b, off, e, hb, ?_, ?_, ?_⟩
  · simpa [Nat.add_assoc] using hc 0 _ rfl
  · simpa [Nat.add_assoc] using hc 1 _ rfl
  · simpa [Nat.add_assoc] using hc 2 _ rfl
theorem zs_at {w : World} {B : Nat} {A : Option Addr} {zs : List Int} (h : Rd w B A (zs.map (Value.int .u32))) {i : Nat} {z : Int} (hi : zs[i]? = some z) : ∃ b off, A = some ⟨b, off, none⟩ ∧ b < B ∧ w.cell? ⟨b, off + i, none⟩ = some (.int .u32 z) := by
  have hl : i < zs.length := by
    rcases Nat.lt_or_ge i zs.length with h' | h'
    · exact h'
    · rw [List.getElem?_eq_none h'] at hi; cases hi
  obtain ⟨b, off, e, hb, hc⟩ := h (by simp; omega)
  exact ⟨b, off, e, hb, hc i _ (by simp [hi])⟩
/-- faces and the document's list of them -/
structure StP (w : World) (n g : Nat) (v : Value) (A : Option Addr) (c : Nat) (l : List Fc) (wr : World) : Prop where
  fs : Fs wr w.heap.size g v l
  ls : Ls wr wr.heap.size A n c l
  base : Below w.heap.size w wr
  off : 0 < n → ∀ a, A = some a → v.ownBlock ≠ some a.block
theorem StP.act {w : World} {n g : Nat} {v : Value} {A : Option Addr} {c : Nat} {l l' : List Fc} {wr w' : World} {g' : Nat} {v' : Value} {A' : Option Addr} {c' : Nat} (h : StP w n g v A c l wr) (hq : ActQ wr w.heap.size g v A l' n w' g' v' A' c') : StP w n g' v' A' c' l' w' :=
  ⟨hq.fs, hq.ls, h.base.trans (hq.gz.below h.fs h.base.size), hq.off⟩
theorem StP.below {w : World} {n g : Nat} {v : Value} {A : Option Addr} {c : Nat} {l : List Fc} {wr w' : World} (h : StP w n g v A c l wr) (hb : Below wr.heap.size wr w') : StP w n g v A c l w' :=
  ⟨h.fs.below hb, h.ls.next hb, bnext h.base hb, h.off⟩

set_option maxHeartbeats 8000000 in
theorem faceplays_walk (l : List Fc) (n c : Nat) (A : Option Addr) (xs : List Ac9) (m cm : Nat) (Am : Option Addr) (zs : List Int) (k ck : Nat) (Ak : Option Addr) (w : World) (hL : Ls w w.heap.size A n c l) (hm : xs.length = m) (hM : Rd w w.heap.size Am (ac9C xs)) (hmc : m ≤ cm ∧ cm ≤ 9223372036854775807)
    (hk : zs.length = k) (hK : Rd w w.heap.size Ak (zs.map (Value.int .u32))) (hkc : k ≤ ck ∧ ck ≤ 9223372036854775807) (hz : ∀ z ∈ zs, (Lit.int .u32 z).wf = true) (hR : RelsAt w) :
    Calls Tryd.prog 6 #[.slice A n c, .slice Am m cm, .slice Ak k ck] w fun e w' => e = .returned (.bool true) ∧ Below w.heap.size w w' := by
  obtain ⟨i0, hi0, hz0, hz1, hz2⟩ := info_parts fc_info
  have HL := Lib.hid hL
  have hcap := hL.cap
  have HWK := Lib.hid (fun W (hb : Below w.heap.size w W) => works9_any W (hR.below hb))
  have HR := Lib.hid hR
  have HM := Lib.hid hM
  have HK := Lib.hid hK
  have HMN := Lib.hid hm
  have HKN := Lib.hid hk
  have HZ := Lib.hid hz
  clear hL hR hM hK hm hk hz
  by_cases hbig : 16 < n ∨ 20 < m ∨ 20 < k
  · have hc3 : decide ((16 : Int) < n) = true ∨ (decide ((16 : Int) < n) = false ∧ decide ((20 : Int) < m) = true) ∨ (decide ((16 : Int) < n) = false ∧ decide ((20 : Int) < m) = false ∧ decide ((20 : Int) < k) = true) := by
      by_cases h1 : 16 < n
      · exact .inl (decide_eq_true (by omega))
      · by_cases h2 : 20 < m
        · exact .inr (.inl ⟨decide_eq_false (by omega), decide_eq_true (by omega)⟩)
        · exact .inr (.inr ⟨decide_eq_false (by omega), decide_eq_false (by omega), decide_eq_true (by omega)⟩)
    have hd1 : decide ((16 : Int) < n) = decide (16 < n) := decide_eq_decide.2 (by omega)
    have hd2 : decide ((20 : Int) < m) = decide (20 < m) := decide_eq_decide.2 (by omega)
    have hd3 : decide ((20 : Int) < k) = decide (20 < k) := decide_eq_decide.2 (by omega)
    rcases hc3 with h1 | ⟨h1, h2⟩ | ⟨h1, h2, h3⟩
    case' inl => have h1' := hd1.symm.trans h1
    case' inr.inl =>
      have h1' := hd1.symm.trans h1
      have h2' := hd2.symm.trans h2
    case' inr.inr =>
      have h1' := hd1.symm.trans h1
      have h2' := hd2.symm.trans h2
      have h3' := hd3.symm.trans h3
    all_goals
      clear hbig hd1 hd2 hd3
      go_enter Tryd.func6, Tryd.ntmps6
      go_wp2_with fail
      refine (HWK.out _ (Below.refl _ _)).mono ?_
      rintro e w1 ⟨rfl, b1⟩
      go_wp2_with fail
      go_ret
      exact ⟨rfl, b1⟩
  have h1 : decide ((16 : Int) < n) = false := decide_eq_false (by omega)
  have h2 : decide ((20 : Int) < m) = false := decide_eq_false (by omega)
  have h3 : decide ((20 : Int) < k) = false := decide_eq_false (by omega)
  have h1' : decide (16 < n) = false := decide_eq_false (by omega)
  have h2' : decide (20 < m) = false := decide_eq_false (by omega)
  have h3' : decide (20 < k) = false := decide_eq_false (by omega)
  have HNW := Lib.hid (new_any l n c w.heap.size A w HL.out (Nat.le_refl _) HR.out (by omega))
  go_enter Tryd.func6, Tryd.ntmps6
  go_wp2_with fail
  refine HNW.out.mono ?_
  rintro e w2 ⟨hcase, b2⟩
  have HB2 := Lib.hid b2
  have HRN := Lib.hid (refNew_any l n c w.heap.size A w2 (HL.out.below b2) b2.size (by omega))
  clear HNW b2
  rcases hcase with ⟨h0, g, v, rfl, hF⟩ | ⟨hno, rfl⟩
  case inr =>
    obtain ⟨z, hz⟩ : ∃ z, z = newE l := ⟨_, rfl⟩
    rw [← hz] at hno HRN ⊢
    have hz1 : ((z : Int) != 0) = true := by rw [bne_iff_ne]; exact hno
    have hz3 : ((z : Int) == z) = true := by simp
    clear hz hno
    go_wp2_with fail
    refine HRN.out.mono ?_
    rintro e w3 ⟨rfl, b3⟩
    go_wp2_with (first | (go_at_call 10; refine (num_any _ _).mono ?_; rintro e w' ⟨rfl, rfl⟩) | (go_at_call 8; refine (HWK.out _ (bnext HB2.out b3)).mono ?_; rintro e w4 ⟨rfl, b4⟩))
    go_ret
    exact ⟨rfl, bnext (bnext HB2.out b3) b4⟩
  rw [h0] at HRN
  have HF := Lib.hid hF
  clear hF h0
  go_wp2_with fail
  refine HRN.out.mono ?_
  rintro e w3 ⟨rfl, b3⟩
  have HB3 := Lib.hid (bnext HB2.out b3)
  have hsz := HB3.out.size
  have HF3 := Lib.hid (HF.out.below b3)
  have HRD := Lib.hid ((HL.out.rd.below HB3.out).alloc hsz (.cells #[] 35))
  have HLEN := Lib.hid HL.out.len
  have hsz23 := b3.size
  have HVL := Lib.hid (own_lt HF.out.own)
  clear HRN b3 HF
  go_wp2_with (at_builtin; refine wpList_append_rd rfl (.tmp 51) (.tmp 52) _ rfl w3.heap.size 35 i0 _ 4 24 Tryd.underlying22 hi0 hz0 hz1 hz2 rfl (by omega) (.slice (some ⟨w3.heap.size, 0, none⟩) 0 0) 0 [] rfl (World.ownsRow_lit w3 #[] 0 (Nat.le_refl _) (by simp [maxLen]) (by simp)) n c (fcC l) rfl (by rw [fcC_len, HLEN.out]) HRD.out (fcC_one l) (by simp only [maxLen]; omega) (by omega) (by simp) ?_; intro v1 w4 ho1 hg1 ha1; simp only [Nat.zero_add, List.nil_append] at ho1; obtain ⟨A1, c1, rfl, q1, q2, q3, q4⟩ := own_row ho1)
  have hb4 : Below w3.heap.size w3 w4 := ((Below.refl _ _).alloc (Nat.le_refl _) _).grown hg1 (by simp) (by simp [Value.ownBlock])
  have HS : Hid (StP w n g v A1 c1 l w4) := Lib.hid ⟨HF3.out.below hb4, ⟨HL.out.len, ⟨q1, by unfold maxLen at q2; omega⟩, q3, HL.out.fit⟩, bnext HB3.out hb4, fun _ a ha e => by have h1 := q4 a ha; have h2 := HVL.out _ e; omega⟩
  clear ho1 hg1 ha1 q1 q2 q3 q4 hb4 HF3 HRD hsz
  go_loopw [7, 10, 11] (fun s wa i wr => ∃ (j g : Nat) (v : Value) (A' : Option Addr) (c' : Nat) (lc : List Fc), j ≤ m ∧ s = .pointer (some ⟨g, 0, none⟩) ∧ wa = .slice A' n c' ∧ i = .int .i64 j ∧ Hid (StP w n g v A' c' lc wr)) (fun _ _ i _ => m - (intOf i).toNat)
  case atStart => exact ⟨0, g, v, A1, c1, l, Nat.zero_le _, rfl, rfl, rfl, HS⟩
  case round =>
    clear HS HVL
    obtain ⟨j, g, v, A', c', lc, hj, rfl, rfl, rfl, S⟩ := hrel
    by_cases hlt : j < m
    · obtain ⟨x, hx⟩ : ∃ x, xs[j]? = some x := ⟨xs[j]'(by rw [HMN.out]; exact hlt), List.getElem?_eq_getElem _⟩
      obtain ⟨b, off, rfl, _, q0, q1, q2⟩ := ac9_at (HM.out.below S.out.base) hx
      have HAC := Lib.hid (act9_any x S.out.fs S.out.base.size S.out.ls S.out.off)
      simp only [ac9A] at HAC
      have hj2 : (0 : Int) ≤ (j : Int) ∧ (j : Int) < (m : Int) := by omega
      clear hx
      generalize hlx : actL x lc = lx at *
      go_wp2_with fail
      refine HAC.out.mono ?_
      rintro e w5 ⟨g', v', A'', c'', rfl, hQ⟩
      have HS5 := Lib.hid (S.out.act hQ)
      clear hQ
      go_wp2_with fail
      go_roundw
      case rel => exact ⟨j + 1, g', v', A'', c'', lx, by omega, rfl, rfl, by go_num, HS5⟩
      case measure => simp [intOf]; omega
    · obtain rfl : j = m := by omega
      obtain ⟨wo, rfl⟩ : ∃ x, x = wr := ⟨_, rfl⟩
      go_wp2_with fail
      go_loopw [15] (fun i wr => ∃ t : Nat, t ≤ k ∧ i = .int .i64 t ∧ Below wo.heap.size wo wr) (fun i _ => k - (intOf i).toNat)
      case atStart => exact ⟨0, Nat.zero_le _, rfl, Below.refl _ _⟩
      case round =>
        obtain ⟨t, ht, rfl, hb⟩ := hrel
        obtain ⟨wq, rfl⟩ : ∃ x, x = wr := ⟨_, rfl⟩
        have HS1 := Lib.hid (S.out.below hb)
        have HBQ := Lib.hid hb
        clear hb
        by_cases hlt2 : t < k
        · obtain ⟨z, hz⟩ : ∃ z, zs[t]? = some z := ⟨zs[t]'(by rw [HKN.out]; exact hlt2), List.getElem?_eq_getElem _⟩
          have hbz := bounds_u32 (HZ.out z (List.mem_of_getElem? hz))
          obtain ⟨a, rfl⟩ := Int.eq_ofNat_of_zero_le hbz.1
          have ha : a < 4294967296 := by omega
          obtain ⟨b, off, rfl, hbl, q0⟩ := zs_at (HK.out.below HS1.out.base) hz
          have HTO := Lib.hid (to_any a ha HS1.out.fs)
          have ht2 : (0 : Int) ≤ (t : Int) ∧ (t : Int) < (k : Int) := by omega
          have HT2 := Lib.hid (fun W (hW : Below wq.heap.size wq W) => refTo9_any lc n c' W.heap.size A' a W (HS1.out.ls.next hW) (Nat.le_refl _) ha)
          have HLB := Lib.hid (Nat.lt_of_lt_of_le hbl (Nat.le_refl w.heap.size))
          have hbq := cell_lt q0
          clear hz hbz hbl
          obtain ⟨fi, hfi⟩ : ∃ fi, fi = firstF (toP a) lc := ⟨_, rfl⟩
          rw [← hfi] at HTO HT2
          clear hfi
          obtain ⟨fb, hfb⟩ : ∃ fb, fb = lc.any (toP a) := ⟨_, rfl⟩
          rw [← hfb] at HTO HT2
          clear hfb
          go_wp2_with fail
          refine HTO.out.mono ?_
          rintro e w5 ⟨rfl, b5⟩
          have p0 := (b5.cell hbq).trans q0
          go_wp2_with fail
          refine (HT2.out w5 b5).mono ?_
          rintro e w6 ⟨rfl, b6⟩
          have b56 := bnext b5 b6
          have HS6 := Lib.hid (HS1.out.below b56)
          have HB6 := Lib.hid (bnext HBQ.out b56)
          have r0 := (b56.cell hbq).trans q0
          have hbr := cell_lt r0
          have hne1 : ((fi : Int) != (fi : Int)) = false := by simp
          have hne2 : (fb != fb) = false := by simp
          have hne3 : (ownB lc a != ownB lc a) = false := by simp
          generalize hob : ownB lc a = ob at *
          have e0 := fun v : Sub w6 => (v.2.cell hbr).trans r0
          have hne : Nonempty (Sub w6) := ⟨⟨_, Below.refl _ _⟩⟩
          have HOA := Lib.hid (fun v : Sub w6 => own_any9 a (HS6.out.fs.below v.2))
          have HOB := Lib.hid (fun v : Sub w6 => refOwn9_any lc n c' v.1.heap.size A' a v.1 HS6.out.ls.len ((HS6.out.ls.next v.2).rd) HS6.out.ls.cap)
          rw [hob] at HOA HOB
          clear b5 b6 b56 p0 q0 r0 HTO HT2
          go_wp2_with fail
          refine region_sub (by kernel_rfl) (by kernel_rfl) ?_
          repeat (first | go_big_quiet_step (((first | (go_at_call 22; exact sub_below (HOA.out _)) | (go_at_call 23; exact sub_below (HOB.out _))))) | quiet_step (((first | (go_at_call 22; exact sub_below (HOA.out _)) | (go_at_call 23; exact sub_below (HOB.out _))))))
          refine wpQuiet_nil ?_
          rintro _ ⟨v7, rfl⟩
          obtain ⟨w7, b7⟩ := v7
          try simp only
          have HS7 := Lib.hid (HS6.out.below b7)
          have HB7 := Lib.hid (bnext HB6.out b7)
          have r7 := e0 ⟨w7, b7⟩
          simp only at r7
          clear e0 hne HOA HOB b7 HS6 HB6 hob
          go_wp2_with fail
          go_loopw [20] (fun i wr => ∃ f : Int, -1 ≤ f ∧ f ≤ n + 1 ∧ i = .int .i64 f ∧ Below w7.heap.size w7 wr) (fun i _ => n + 2 - (intOf i + 1).toNat)
          case atStart => exact ⟨-1, by omega, by omega, rfl, Below.refl _ _⟩
          case round =>
            obtain ⟨f, hf0, hf1, rfl, hb8⟩ := hrel
            obtain ⟨wp, rfl⟩ : ∃ x, x = wr := ⟨_, rfl⟩
            have HS8 := Lib.hid (HS7.out.below hb8)
            have HB8 := Lib.hid hb8
            have r8 := (hb8.cell (cell_lt r7)).trans r7
            have hbr8 := cell_lt r8
            clear hb8
            by_cases hle : f ≤ n
            · have hle' : decide (f ≤ (n : Int)) = true := decide_eq_true hle
              obtain ⟨fe, hfe⟩ : ∃ fe, fe = fromE lc f a := ⟨_, rfl⟩
              have e0 := fun v : Sub wp => (v.2.cell hbr8).trans r8
              have hne : Nonempty (Sub wp) := ⟨⟨_, Below.refl _ _⟩⟩
              have HOA := Lib.hid (fun v : Sub wp => from_any f a ha (HS8.out.fs.below v.2))
              have HOB := Lib.hid (fun v : Sub wp => refFrom9_any lc n c' v.1.heap.size A' f a v.1 (HS8.out.ls.next v.2) (Nat.le_refl _) ha)
              rw [← hfe] at HOA HOB
              have hne3 : (fe != fe) = false := by simp
              clear hfe
              go_wp2_with fail
              refine region_sub (by kernel_rfl) (by kernel_rfl) ?_
              repeat (first | go_big_quiet_step (((first | (go_at_call 10; exact sub_same (num_any _ _)) | (go_at_call 12; exact sub_below (HOA.out _)) | (go_at_call 24; exact sub_below (HOB.out _))))) | quiet_step (((first | (go_at_call 10; exact sub_same (num_any _ _)) | (go_at_call 12; exact sub_below (HOA.out _)) | (go_at_call 24; exact sub_below (HOB.out _))))))
              refine wpQuiet_nil ?_
              rintro _ ⟨v9, rfl⟩
              obtain ⟨w9, b9⟩ := v9
              try simp only
              have HB9 := Lib.hid (bnext HB8.out b9)
              clear e0 hne HOA HOB b9
              go_wp2_with fail
              go_roundw
              case rel => exact ⟨f + 1, by omega, by omega, by go_num, HB9.out⟩
              case measure => simp [intOf]; omega
            · have hle' : decide (f ≤ (n : Int)) = false := decide_eq_false hle
              have HB9 := Lib.hid (bnext HB7.out HB8.out)
              go_wp2_with fail
              go_roundw
              case rel => exact ⟨t + 1, by omega, by go_num, HB9.out⟩
              case measure => simp [intOf]; omega
        · obtain rfl : t = k := by omega
          have HIS := Lib.hid (is9_any HS1.out.fs HS1.out.ls)
          go_wp2_with (first | (go_at_call 10; refine (num_any _ _).mono ?_; rintro e w' ⟨rfl, rfl⟩) | (go_at_call 17; refine HIS.out.mono ?_; rintro e w6 ⟨rfl, b6⟩) | (go_at_call 8; refine (HWK.out _ (bnext HS1.out.base b6)).mono ?_; rintro e w7 ⟨rfl, b7⟩))
          go_ret
          exact ⟨rfl, bnext (bnext HS1.out.base b6) b7⟩
end Go.Proofs.YtfgbliglgdkgpaaDoor
