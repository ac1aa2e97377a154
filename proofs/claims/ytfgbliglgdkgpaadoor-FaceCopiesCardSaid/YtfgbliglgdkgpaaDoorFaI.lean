/- face: the law's is and act. -/
import Derived.Test.YtfgbliglgdkgpaaDoorFaG
import Derived.Test.YtfgbliglgdkgpaaDoorFaAc
namespace Go.Proofs.YtfgbliglgdkgpaaDoor
set_option linter.unusedVariables false
set_option linter.unusedSimpArgs false
open Go.RowKit Go.Shelf
set_option maxRecDepth 100000
theorem Ls.below {w w' : World} {B n c : Nat} {A : Option Addr} {l : List Fc} (h : Ls w B A n c l) (hb : Below B w w') : Ls w' B A n c l := ⟨h.len, h.cap, h.rd.below hb, h.fit⟩
theorem Ls.next {w w' : World} {n c : Nat} {A : Option Addr} {l : List Fc} (h : Ls w w.heap.size A n c l) (hb : Below w.heap.size w w') : Ls w' w'.heap.size A n c l := ⟨h.len, h.cap, (h.rd.below hb).more hb.size, h.fit⟩
theorem Fs.mono {w : World} {n0 n1 g : Nat} {v : Value} {l : List Fc} (h : Fs w n0 g v l) (hn : n1 ≤ n0) : Fs w n1 g v l := ⟨h.blk, own_keep h.own hn (fun _ _ _ => rfl), Nat.le_trans hn h.ge, h.len, h.fit, h.apart⟩
theorem Fs.fr {w w' : World} {n0 g : Nat} {v : Value} {l : List Fc} {p : Nat → Prop} (h : Fs w n0 g v l) (hf : Fr p w w') (hg : p g) (hv : ∀ k, v.ownBlock = some k → p k) : Fs w' n0 g v l :=
  ⟨hf.blk h.blk hg, own_keep h.own (Nat.le_refl _) (fun k hk hl => hf.2.2.2.2 k (hv k hk) hl), h.ge, h.len, h.fit, h.apart⟩
theorem getF_no {l : List Fc} {i : Int} (h : i < 0 ∨ (l.length : Int) ≤ i) : getF l i = fZ ∧ getE l i = 4 := by
  unfold getF getE
  rw [if_neg (by omega), if_neg (by omega)]
  exact ⟨rfl, rfl⟩
theorem getF_yes {l : List Fc} {k : Nat} {f : Fc} (h : l[k]? = some f) : getF l (k : Int) = f ∧ getE l (k : Int) = 0 := by
  have hk : k < l.length := by
    rcases Nat.lt_or_ge k l.length with h' | h'
    · exact h'
    · rw [List.getElem?_eq_none h'] at h; cases h
  unfold getF getE
  rw [if_pos (by omega), if_pos (by omega), Int.toNat_natCast, List.getD, h]
  exact ⟨rfl, rfl⟩

set_option maxHeartbeats 4000000 in
theorem is9_any {w : World} {n0 g n c : Nat} {v : Value} {l : List Fc} {A : Option Addr} (hF : Fs w n0 g v l) (hL : Ls w w.heap.size A n c l) :
    Calls Tryd.prog 17 #[.pointer (some ⟨g, 0, none⟩), .slice A n c] w fun e w' => e = .returned (.bool true) ∧ Below w.heap.size w w' := by
  have HL := Lib.hid hL
  have HF := Lib.hid hF
  have hcap := hL.cap
  have hn16 : n ≤ 16 := by rw [← hL.len]; exact hF.len
  clear hL hF
  have hz := ne_fc 0 0 0 0 0 0 false false
  simp only [beq_self_eq_true, Bool.and_self, Bool.not_true] at hz
  go_enter Tryd.func17, Tryd.ntmps17
  go_wp2_with fail
  go_loopw [5] (fun v' wr => ∃ i : Int, -1 ≤ i ∧ i ≤ n + 1 ∧ v' = .int .i64 i ∧ Below w.heap.size w wr) (fun v' _ => n + 2 - (intOf v' + 1).toNat)
  case atStart => exact ⟨-1, by omega, by omega, rfl, Below.refl _ _⟩
  case round =>
    obtain ⟨i, hi0, hi1, rfl, hb⟩ := hrel
    have HB := Lib.hid hb
    have HG := Lib.hid (get_any i (HF.out.below hb))
    clear hb
    by_cases hlt : i ≤ n
    case pos =>
      by_cases hout : i < 0 ∨ i = n
      · rw [(getF_no (l := l) (i := i) (by rw [HL.out.len]; omega)).1, (getF_no (l := l) (i := i) (by rw [HL.out.len]; omega)).2] at HG
        simp only [fZ] at HG
        have hle : decide (i ≤ (n : Int)) = true := decide_eq_true hlt
        rcases hout with h | h
        case' inl => have h1 : decide (i < 0) = true := decide_eq_true h
        case' inr =>
          have h1 : decide (i < 0) = false := decide_eq_false (by omega)
          have h2 : (i == (n : Int)) = true := by rw [beq_iff_eq]; exact h
        all_goals
          clear h
          go_wp2_with fail
          refine HG.out.mono ?_
          rintro e w2 ⟨rfl, b2⟩
          have hc2 := bnext HB.out b2
          go_wp2_with (go_at_call 10; refine (num_any _ _).mono ?_; rintro e w' ⟨rfl, rfl⟩)
          go_roundw
          case rel => exact ⟨i + 1, by omega, by omega, by go_num, balloc hc2 _⟩
          case measure => simp [intOf]; omega
      · obtain ⟨k, rfl⟩ := Int.eq_ofNat_of_zero_le (show 0 ≤ i by omega)
        have hk : k < l.length := by rw [HL.out.len]; omega
        obtain ⟨f, hf⟩ : ∃ f, l[k]? = some f := ⟨_, List.getElem?_eq_getElem hk⟩
        rw [(getF_yes hf).1, (getF_yes hf).2] at HG
        obtain ⟨b, off, rfl, hbb, q0, q1, q2, q3⟩ := fc_at (HL.out.rd.below HB.out) hf
        obtain ⟨na, nl, ad, up⟩ := f
        simp only at HG q0 q1 q2 q3
        have hNE := ne_fc na nl ad na nl ad up up
        simp only [beq_self_eq_true, Bool.and_self, Bool.not_true] at hNE
        have hle : decide ((k : Int) ≤ (n : Int)) = true := decide_eq_true hlt
        have h1 : decide ((k : Int) < 0) = false := decide_eq_false (by omega)
        have h2 : ((k : Int) == (n : Int)) = false := by rw [beq_eq_false_iff_ne]; omega
        have h3 : (k : Int) < (n : Int) := by omega
        have hbl := cell_lt q0
        clear hf
        go_wp2_with fail
        refine HG.out.mono ?_
        rintro e w2 ⟨rfl, b2⟩
        have p0 := (b2.cell hbl).trans q0
        have p1 := (b2.cell (p := ⟨b, off + k * 4 + 1, none⟩) hbl).trans q1
        have p2 := (b2.cell (p := ⟨b, off + k * 4 + 2, none⟩) hbl).trans q2
        have p3 := (b2.cell (p := ⟨b, off + k * 4 + 3, none⟩) hbl).trans q3
        have hc2 := bnext HB.out b2
        have hbl2 := cell_lt p0
        go_wp2_with fail
        go_quiet ((go_at_call 10; exact q_same (num_any _ _)))
        go_wp2_with fail
        go_roundw
        case rel => exact ⟨(k : Int) + 1, by omega, by omega, by go_num, below_drewN (balloc hc2 _) _⟩
        case measure => simp [intOf]; omega
    case neg =>
      have hle : decide (i ≤ (n : Int)) = false := decide_eq_false hlt
      have HS := Lib.hid (HF.out.below HB.out)
      have HLEN := Lib.hid (flen_any HS.out)
      rw [HL.out.len] at HLEN
      have HUP := Lib.hid (upsl_any l (some ⟨g, 0, none⟩) 99 n c A wr (HL.out.next HB.out) hn16 (fun W hW => ups_some (HS.out.below hW)))
      have hnn : ((n : Int) == (n : Int)) = true := by simp
      go_wp2_with (first | (go_at_call 27; refine HLEN.out.mono ?_; rintro e w' ⟨rfl, rfl⟩) | (go_at_call 19; refine HUP.out.mono ?_; rintro e w2 ⟨rfl, b2⟩))
      go_ret
      exact ⟨rfl, bnext HB.out b2⟩

def actL (x : Ac9) (l : List Fc) : List Fc := if x.wh < 0 ∨ 3 < x.wh then l else setL l x.i x.up
theorem setL_len (l : List Fc) (i : Int) (up : Bool) : (setL l i up).length = l.length := by unfold setL; split <;> simp
theorem actL_len (x : Ac9) (l : List Fc) : (actL x l).length = l.length := by unfold actL; split; rfl; exact setL_len _ _ _
theorem actL_no {x : Ac9} {l : List Fc} (h : ¬ (x.wh < 0 ∨ 3 < x.wh)) : actL x l = setL l x.i x.up := by unfold actL; rw [if_neg h]
/-- behind a call: the faces, the document's, what is left alone, what is new -/
structure ActQ (w : World) (n0 g : Nat) (v : Value) (A : Option Addr) (l' : List Fc) (n : Nat) (w' : World) (g' : Nat) (v' : Value) (A' : Option Addr) (c' : Nat) : Prop where
  fs : Fs w' n0 g' v' l'
  ls : Ls w' w'.heap.size A' n c' l'
  gz : Gz w w' v
  off : 0 < n → ∀ a, A' = some a → v'.ownBlock ≠ some a.block
  prov : (g' = g ∧ v' = v) ∨ (w.heap.size ≤ g' ∧ ∀ k, v'.ownBlock = some k → w.heap.size ≤ k)
  provA : A' = A ∨ ∀ a, A' = some a → w.heap.size ≤ a.block
def ActP (w : World) (n0 g : Nat) (v : Value) (A : Option Addr) (l' : List Fc) (n : Nat) (e : Ending) (w' : World) : Prop :=
  ∃ g' v' A' c', e = .returned (.tuple #[.pointer (some ⟨g', 0, none⟩), .slice A' n c', .bool true]) ∧ ActQ w n0 g v A l' n w' g' v' A' c'
theorem Ls.gz {w w' : World} {B n c : Nat} {A : Option Addr} {l : List Fc} {v : Value} (h : Ls w B A n c l) (hz : Gz w w' v) (ho : 0 < n → ∀ a, A = some a → v.ownBlock ≠ some a.block) : Ls w' B A n c l := by
  refine ⟨h.len, h.cap, ?_, h.fit⟩
  rcases Nat.eq_zero_or_pos n with h0 | h0
  · intro h1
    rw [fcC_len, h.len, h0] at h1
    omega
  · exact Fr.rd hz h.rd (ho h0)
theorem Ls.lt {w : World} {B n c : Nat} {A : Option Addr} {l : List Fc} (h : Ls w B A n c l) (h0 : 0 < n) : ∀ a, A = some a → a.block < B := fun a ha => by
  obtain ⟨b, off, hA, hb, _⟩ := h.rd (by rw [fcC_len, h.len]; omega)
  rw [hA] at ha
  injection ha with ha
  rw [← ha]
  exact hb

set_option maxHeartbeats 4000000 in
theorem act9_any {w : World} {n0 g n c : Nat} {v : Value} {l : List Fc} {A : Option Addr} (x : Ac9) (hF : Fs w n0 g v l) (hn0 : n0 ≤ w.heap.size) (hL : Ls w w.heap.size A n c l) (hoff : 0 < n → ∀ a, A = some a → v.ownBlock ≠ some a.block) :
    Calls Tryd.prog 20 #[.pointer (some ⟨g, 0, none⟩), .slice A n c, .agg (ac9A x)] w (ActP w n0 g v A (actL x l) n) := by
  have HL := Lib.hid hL
  have HF := Lib.hid hF
  have HOFF := Lib.hid hoff
  have hcap := hL.cap
  have hn16 : n ≤ 16 := by rw [← hL.len]; exact hF.len
  clear hL hF hoff
  have hb1 : Below w.heap.size w (w.alloc (.cells (ac9A x) 46)) := balloc (Below.refl _ _) _
  have hbx := Blk.new w 46 (ac9A x)
  obtain ⟨wh, i, up⟩ := x
  simp only [ac9A] at hb1 hbx ⊢
  have HB1 := Lib.hid hb1
  by_cases hwh : wh < 0 ∨ 3 < wh
  · rw [show actL ⟨wh, i, up⟩ l = l by unfold actL; rw [if_pos hwh]]
    have HC := Lib.hid (fcopy_any (HF.out.below hb1))
    have hw2 : decide (wh < 0) = true ∨ (decide (wh < 0) = false ∧ decide (3 < wh) = true) := by
      by_cases h : wh < 0
      · exact .inl (decide_eq_true h)
      · exact .inr ⟨decide_eq_false h, decide_eq_true (by omega)⟩
    clear hwh hb1 hbx
    rcases hw2 with h1 | ⟨h1, h2⟩
    all_goals
      go_enter Tryd.func20, Tryd.ntmps20
      go_wp2_with fail
      refine HC.out.mono ?_
      rintro e w2 ⟨⟨g', v', rfl, hF2⟩, b2⟩
      go_wp2_with fail
      have hc2 := bnext HB1.out b2
      simp only [World.size_alloc] at hF2
      refine bodyPost_ret (v := .tuple #[.pointer (some ⟨g', 0, none⟩), .slice A n c, .bool true]) (by simp [results, Tryd.results20, go_sem]) rfl ⟨g', v', A, c, rfl, hF2.mono (by omega), HL.out.next hc2, Fr.of_below hc2, fun h0 a ha e => ?_, .inr ⟨by have := hF2.ge; omega, fun k hk => by have := own_base' hF2.own k hk; omega⟩, .inl rfl⟩
      have h1 := own_base' hF2.own _ e
      have h2 := HL.out.lt h0 a ha
      omega
  · rw [actL_no hwh]
    have hSA := set_any i up (HF.out.below hb1)
    have hlt := own_lt HF.out.own
    have h1 : decide (wh < 0) = false := decide_eq_false (by omega)
    have h2 : decide (3 < wh) = false := decide_eq_false (by omega)
    clear hwh hb1
    by_cases hi : i < 0 ∨ (n : Int) ≤ i
    · rw [(getF_no (l := l) (i := i) (by rw [HL.out.len]; omega)).1, (getF_no (l := l) (i := i) (by rw [HL.out.len]; omega)).2] at hSA
      have hset : setL l i up = l := by unfold setL; rw [if_neg (by rw [HL.out.len]; omega)]
      rw [hset] at hSA ⊢
      simp only [fZ] at hSA
      have HSA := Lib.hid hSA
      have hi2 : decide (i < 0) = true ∨ (decide (i < 0) = false ∧ decide ((n : Int) ≤ i) = true) := by
        by_cases h : i < 0
        · exact .inl (decide_eq_true h)
        · exact .inr ⟨decide_eq_false h, decide_eq_true (by omega)⟩
      clear hi hset hSA
      rcases hi2 with h3 | ⟨h3, h4⟩
      all_goals
        go_enter Tryd.func20, Tryd.ntmps20
        go_wp2_with fail
        refine HSA.out.mono ?_
        rintro e w2 ⟨rfl, hF2, hz⟩
        have kx := Fr.blk hz hbx (fun e => by have := hlt _ e; omega)
        have d0 := (kx).cell 0
        have d1 := (kx).cell 1
        have d2 := (kx).cell 2
        simp only [List.getElem?_toArray, List.getElem?_cons_zero, List.getElem?_cons_succ] at d0 d1 d2
        go_wp2_with (go_at_call 10; refine (num_any _ _).mono ?_; rintro e w' ⟨rfl, rfl⟩)
        have hzz : Gz w w2 v := Fr.trans (Fr.of_below HB1.out) hz
        have hsz := hzz.2.2.2.1
        refine bodyPost_ret (v := .tuple #[.pointer (some ⟨g, 0, none⟩), .slice A n c, .bool true]) (by simp [results, Tryd.results20, go_sem]) rfl ⟨g, v, A, c, rfl, hF2, ?_, hzz, HOFF.out, .inl ⟨rfl, rfl⟩, .inl rfl⟩
        have := HL.out.gz hzz HOFF.out
        exact ⟨this.len, this.cap, this.rd.more hsz, this.fit⟩
    · obtain ⟨k, rfl⟩ := Int.eq_ofNat_of_zero_le (show 0 ≤ i by omega)
      have hk : k < l.length := by rw [HL.out.len]; omega
      obtain ⟨f, hf⟩ : ∃ f, l[k]? = some f := ⟨_, List.getElem?_eq_getElem hk⟩
      rw [(getF_yes hf).1, (getF_yes hf).2] at hSA
      have HSA := Lib.hid hSA
      have h3 : decide ((k : Int) < 0) = false := decide_eq_false (by omega)
      have h4 : decide ((n : Int) ≤ (k : Int)) = false := decide_eq_false (by omega)
      have h4' : decide (n ≤ k) = false := decide_eq_false (by omega)
      have h5 : (k : Int) < (n : Int) := by omega
      have HX := Lib.hid hf
      have hn1 : 0 < n := by omega
      clear hi hSA hf
      go_enter Tryd.func20, Tryd.ntmps20
      go_wp2_with fail
      refine HSA.out.mono ?_
      rintro e w2 ⟨rfl, hF2, hz⟩
      have kx := Fr.blk hz hbx (fun e => by have := hlt _ e; omega)
      have d0 := (kx).cell 0
      have d1 := (kx).cell 1
      have d2 := (kx).cell 2
      simp only [List.getElem?_toArray, List.getElem?_cons_zero, List.getElem?_cons_succ] at d0 d1 d2
      have hzz : Gz w w2 v := Fr.trans (Fr.of_below HB1.out) hz
      have hsz : w.heap.size ≤ w2.heap.size := hzz.2.2.2.1
      have HL2 := Lib.hid (HL.out.gz hzz HOFF.out)
      obtain ⟨b, off, hAe, hbb, q0, q1, q2, q3⟩ := fc_at HL2.out.rd HX.out
      have HRS := Lib.hid (fun W hW => refSet9_any l n c w.heap.size A (k : Int) up W (HL2.out.below (Below.mono hW hsz)) (Nat.le_trans hsz (Below.size hW)) (by omega))
      have HZZ := Lib.hid hzz
      have HF2 := Lib.hid hF2
      clear hz hzz hF2 q0 q1 q2
      subst hAe
      have p0 := d1
      have p1 := d2
      have p2 := q3
      generalize hgb : w.heap.size = gb at *
      have s0 : w2.drew.cell? ⟨gb, 1, none⟩ = some (.int .i64 (k : Int)) ∧ w2.drew.cell? ⟨gb, 2, none⟩ = some (.bool up) ∧ w2.drew.cell? ⟨b, off + k * 4 + 3, none⟩ = some (.bool f.up) := ⟨d1, d2, q3⟩
      have s1 : w2.cell? ⟨gb, 1, none⟩ = some (.int .i64 (k : Int)) ∧ w2.cell? ⟨gb, 2, none⟩ = some (.bool up) ∧ w2.cell? ⟨b, off + k * 4 + 3, none⟩ = some (.bool f.up) := ⟨d1, d2, q3⟩
      have hee : (f.up == f.up) = true := by simp
      go_wp2_with fail
      go_region_held3 (fun w' => w'.cell? ⟨gb, 1, none⟩ = some (.int .i64 (k : Int)) ∧ w'.cell? ⟨gb, 2, none⟩ = some (.bool up) ∧ w'.cell? ⟨b, off + k * 4 + 3, none⟩ = some (.bool f.up))
        (first | exact s0 | exact s1 | exact ⟨(hb4.cell (cell_lt p0)).trans p0, (hb4.cell (cell_lt p1)).trans p1, (hb4.cell (cell_lt p2)).trans p2⟩)
        (first | (go_at_call 10; refine (num_any _ _).mono ?_; rintro e w' ⟨rfl, rfl⟩) | (go_at_call 51; refine (HRS.out _ (by first | exact Below.refl _ _ | exact below_drewN (Below.refl _ _) 1)).mono ?_; rintro e w4 ⟨⟨A4, c4, rfl, hL4, ha4⟩, hb4⟩))
      go_wp2_with fail
      have hb5 : Below w2.heap.size w2 w4 := below_of_drewN (n := 1) hb4
      have hF4 := HF2.out.below hb5
      have hvl := own_lt HF2.out.own
      refine bodyPost_ret (v := .tuple #[.pointer (some ⟨g, 0, none⟩), .slice A4 n c4, .bool true]) (by simp [results, Tryd.results20, go_sem]) rfl ⟨g, v, A4, c4, rfl, hF4, hL4, Fr.trans HZZ.out (Fr.of_below hb5), fun _ a ha e => ?_, .inl ⟨rfl, rfl⟩, .inr fun a ha => ?_⟩
      · have q1 := ha4 a ha
        have q2 := hvl _ e
        exact absurd q1 (by show ¬ w2.heap.size ≤ a.block; omega)
      · have q1 : w2.heap.size ≤ a.block := ha4 a ha
        omega
end Go.Proofs.YtfgbliglgdkgpaaDoor
