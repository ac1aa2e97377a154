/- pulse: the document's Beats. -/
import Derived.Test.YtlgkjboamfgbeaaDoorPulH
import Derived.Deep.CutRange
namespace Go.Proofs.YtlgkjboamfgbeaaDoor
set_option linter.unusedVariables false
set_option linter.unusedSimpArgs false
open Go.RowKit
set_option maxRecDepth 100000
theorem beat_info : (Tryd.prog.info? 52).map (fun i => (i.zero, i.size, i.bytes)) = some (some (.agg #[.int .i64 0, .int .i64 0]), 2, 16) := by kernel_rfl
/-- the document's list, as far as so many -/
def btC (p j q s : Int) (x0 : Int × Int × Bool) (zs : List Int) (m : Nat) : List Value := (List.range m).flatMap fun i => (btA p j q s x0 zs i).toList
theorem btC_succ (p j q s : Int) (x0 : Int × Int × Bool) (zs : List Int) (m : Nat) : btC p j q s x0 zs (m + 1) = btC p j q s x0 zs m ++ (btA p j q s x0 zs m).toList := by
  unfold btC; rw [List.range_succ, List.flatMap_append]; simp
theorem btC_len (p j q s : Int) (x0 : Int × Int × Bool) (zs : List Int) (m : Nat) : (btC p j q s x0 zs m).length = m * 2 := by
  induction m with
  | zero => rfl
  | succ m ih => rw [btC_succ, List.length_append, ih]; simp [btA]; omega
theorem btC_get (p j q s : Int) (x0 : Int × Int × Bool) (zs : List Int) (m : Nat) : ∀ i, i < m → (btC p j q s x0 zs m)[i * 2]? = some (.int .i64 (bvA p j q s x0 zs i)) ∧ (btC p j q s x0 zs m)[i * 2 + 1]? = some (.int .i64 (bvB p j q s x0 zs i)) := by
  induction m with
  | zero => intro i h; omega
  | succ m ih =>
    intro i h
    rw [btC_succ]
    have hl := btC_len p j q s x0 zs m
    rcases Nat.lt_or_ge i m with hm | hm
    · rw [List.getElem?_append_left (by omega), List.getElem?_append_left (by omega)]
      exact ih i hm
    · obtain rfl : i = m := by omega
      rw [List.getElem?_append_right (by omega), List.getElem?_append_right (by omega), hl]
      simp [btA]
theorem own_off {w : World} {base e n size b i : Nat} {v u : Value} {xs : List Value} (h : w.ownsRow base e size v n xs) (hb : b < base) : (w.setCell ⟨b, i, none⟩ u).ownsRow base e size v n xs :=
  h.kept (row := some b) (only_set (only_refl w b)) (by
    cases hv : v.ownBlock with
    | none => exact .inl rfl
    | some k => exact .inr (fun he => by injection he with he; have := own_base h k hv; omega))
theorem grow_blk {W W' : World} {row : Option Nat} {g : Nat} {t : TypeId} {cs : Array Value} (hg : W.grownBy W' row) (hb : Blk W g t cs) (hne : ∀ k, row = some k → g ≠ k) : Blk W' g t cs :=
  (hg.block g hb.lt (fun e => hne g e.symm rfl)).trans hb
theorem zblkJ {wr w5 : World} (b5 : Below (wr.alloc (.cells #[.int .i64 0, .int .i64 0, .bool false] 28)).drew.heap.size (wr.alloc (.cells #[.int .i64 0, .int .i64 0, .bool false] 28)).drew w5) : Blk w5 wr.heap.size 28 #[.int .i64 0, .int .i64 0, .bool false] :=
  Blk.below (w := (wr.alloc (.cells #[.int .i64 0, .int .i64 0, .bool false] 28)).drew) (Blk.new wr 28 #[.int .i64 0, .int .i64 0, .bool false]) b5 (by show _ < (wr.alloc _).heap.size; simp)

set_option maxHeartbeats 4000000 in
theorem rbeats_any (p j t h g q s cp : Int) (A : Option Addr) (n k : Nat) (l : List (Nat × Int)) (hn : l.length = n) (x : Int × Int × Bool) (zs : List Int) (m kz : Nat) (hm : zs.length = m) (Az : Option Addr) (w : World) (hr : Rd w w.heap.size A (plC l)) (hz : Rd w w.heap.size Az (zs.map i8)) (hnk : n ≤ k) (hk : k ≤ 9223372036854775807) (hl : ∀ x ∈ l, x.1 < 4294967296) (hmz : m ≤ kz) (hmk : m ≤ 1000) :
    Calls Tryd.prog 21 #[.agg #[.int .i64 p, .int .i64 j, .int .i64 t, .int .i64 h, .int .i64 g, .int .i64 q, .int .i64 s, .int .i64 cp, .slice A n k], .agg #[.int .i64 x.1, .int .i64 x.2.1, .bool x.2.2], .slice Az m kz] w fun e w' => ∃ v, e = .returned v ∧ w'.ownsRow (w.heap.size + 2) 52 2 v (btN (okC p j t h g q s cp l) p j q s x zs m) (btC p j q s x zs (btN (okC p j t h g q s cp l) p j q s x zs m)) ∧ Below w.heap.size w w' := by
  obtain ⟨i0, hi0, hz0, hz1, hz2⟩ := info_parts beat_info
  have HOK := Lib.hid (btN_ok (oc := okC p j t h g q s cp l) (p := p) (j := j) (q := q) (s := s) (x0 := x) (zs := zs) m)
  have HEN := Lib.hid (btN_end (oc := okC p j t h g q s cp l) (p := p) (j := j) (q := q) (s := s) (x0 := x) (zs := zs) m)
  have hNl := btN_le (oc := okC p j t h g q s cp l) (p := p) (j := j) (q := q) (s := s) (x0 := x) (zs := zs) m
  have HAS := Lib.hid (fun du un nw wt W (hb : Below w.heap.size w W) => asked_any p j t h g q s cp A n k w.heap.size l hn du un nw wt W (hr.below hb) hb.size hnk hk hl)
  have hbd := okC_bounds (p := p) (j := j) (t := t) (h := h) (g := g) (q := q) (s := s) (cp := cp) (l := l)
  have HRT := Lib.hid (fun (hp : 0 ≤ p ∧ p ≤ 1000000) (hj : 0 ≤ j ∧ j ≤ 1000000) (hq : 0 ≤ q ∧ q ≤ 1000000) (hs : 0 ≤ s ∧ s ≤ 1000000) du un nw dr wt (hnw : okN nw = true) W => rtick_any p j t h g q s cp A n k du un nw dr wt W hp hj hq hs hnw)
  have B0 : Below w.heap.size w ((w.alloc (.cells #[.int .i64 p, .int .i64 j, .int .i64 t, .int .i64 h, .int .i64 g, .int .i64 q, .int .i64 s, .int .i64 cp, .slice A n k] 24)).alloc (.cells #[.int .i64 x.1, .int .i64 x.2.1, .bool x.2.2] 28)) := balloc (balloc (Below.refl _ _) _) _
  have x0 := (Blk.new w 24 #[.int .i64 p, .int .i64 j, .int .i64 t, .int .i64 h, .int .i64 g, .int .i64 q, .int .i64 s, .int .i64 cp, .slice A n k]).alloc (.cells #[.int .i64 x.1, .int .i64 x.2.1, .bool x.2.2] 28)
  have x1 := Blk.new (w.alloc (.cells #[.int .i64 p, .int .i64 j, .int .i64 t, .int .i64 h, .int .i64 g, .int .i64 q, .int .i64 s, .int .i64 cp, .slice A n k] 24)) 28 #[.int .i64 x.1, .int .i64 x.2.1, .bool x.2.2]
  rw [World.size_alloc] at x1
  have X := Lib.hid (And.intro x0 (And.intro x1 B0))
  have HZ := Lib.hid (fun W (hb : Below w.heap.size w W) => hz.below hb)
  have HM := Lib.hid hm
  clear hr hz hl x0 x1 B0 hm
  generalize okC p j t h g q s cp l = oc at *
  generalize hNN : btN oc p j q s x zs m = N at *
  clear hNN
  go_enter Tryd.func21, Tryd.ntmps21
  go_wp2_with fail
  obtain ⟨w0, hw0⟩ : ∃ w0, w0 = (w.alloc (.cells #[.int .i64 p, .int .i64 j, .int .i64 t, .int .i64 h, .int .i64 g, .int .i64 q, .int .i64 s, .int .i64 cp, .slice A n k] 24)).alloc (.cells #[.int .i64 x.1, .int .i64 x.2.1, .bool x.2.2] 28) := ⟨_, rfl⟩
  simp only [← hw0] at X ⊢
  clear hw0
  go_loopw [7, 8] (fun v c wr => ∃ i : Nat, i ≤ N ∧ c = .int .i64 i ∧ wr.ownsRow (w.heap.size + 2) 52 2 v i (btC p j q s x zs i) ∧ Blk wr w.heap.size 24 #[.int .i64 p, .int .i64 j, .int .i64 t, .int .i64 h, .int .i64 g, .int .i64 q, .int .i64 s, .int .i64 cp, .slice A n k] ∧ Blk wr (w.heap.size + 1) 28 #[.int .i64 (stS p j q s x zs i).1, .int .i64 (stS p j q s x zs i).2.1, .bool (stS p j q s x zs i).2.2] ∧ Below w.heap.size w wr) (fun _ c _ => m - (intOf c).toNat)
  case atStart => exact ⟨0, Nat.zero_le _, rfl, World.ownsRow_nil _ _ _ _, X.out.1, X.out.2.1, X.out.2.2⟩
  case round =>
    obtain ⟨i, hi, rfl, hown, hC, hP, hB⟩ := hrel
    by_cases hlt : i < m
    case neg =>
      obtain rfl : i = N := by omega
      go_wp2_with fail
      go_ret
      exact ⟨_, rfl, hown, hB⟩
    case pos =>
      have hS : stS p j q s x zs (i + 1) = (tckS p j q s (stS p j q s x zs i) (zs.getD i 0)).1 := rfl
      have hA : btA p j q s x zs i = #[.int .i64 (nxtS (stS p j q s x zs i)), .int .i64 (tckS p j q s (stS p j q s x zs i) (zs.getD i 0)).2] := rfl
      have hbc := btC_succ p j q s x zs i
      rw [hA] at hbc
      have hlz : i < zs.length := by have := HM.out; omega
      have hen : btE oc (stS p j q s x zs i) = 0 → i < N := fun hh => by
        rcases Nat.lt_or_ge i N with h' | h'
        · exact h'
        · obtain rfl : i = N := by omega
          exact absurd hh (HEN.out hlt)
      have hok := HOK.out i
      obtain ⟨bz, oz, rfl, hbz, hcz⟩ := (HZ.out _ hB).at (k := i) (by simpa using hlz)
      simp only [List.getElem_map, i8] at hcz
      have hgd : zs.getD i 0 = zs[i] := by simp [List.getD, List.getElem?_eq_getElem hlz]
      rw [← hgd] at hcz
      have hN2 : nxtF (stS p j q s x zs i).1 (stS p j q s x zs i).2.1 (stS p j q s x zs i).2.2 = nxtS (stS p j q s x zs i) := rfl
      have HNX := Lib.hid (fun V => rnext_any (stS p j q s x zs i).1 (stS p j q s x zs i).2.1 (stS p j q s x zs i).2.2 V)
      rw [hN2] at HNX
      have HA2 := Lib.hid (fun V hV => HAS.out (stS p j q s x zs i).1 (stS p j q s x zs i).2.1 (nxtS (stS p j q s x zs i)) (stS p j q s x zs i).2.2 V hV)
      have hE : askE oc (okT (stS p j q s x zs i).1 && okT (stS p j q s x zs i).2.1) (okN (nxtS (stS p j q s x zs i))) = btE oc (stS p j q s x zs i) := rfl
      have hcs := askE_cases oc (okT (stS p j q s x zs i).1 && okT (stS p j q s x zs i).2.1) (okN (nxtS (stS p j q s x zs i)))
      rw [hE] at HA2 hcs
      have hT2 : tckF p j q s (stS p j q s x zs i).1 (stS p j q s x zs i).2.1 (stS p j q s x zs i).2.2 (nxtS (stS p j q s x zs i)) (zs.getD i 0) = tckS p j q s (stS p j q s x zs i) (zs.getD i 0) := rfl
      have HT := Lib.hid (fun hp hj hq hs hnw V => HRT.out hp hj hq hs (stS p j q s x zs i).1 (stS p j q s x zs i).2.1 (nxtS (stS p j q s x zs i)) (zs.getD i 0) (stS p j q s x zs i).2.2 hnw V)
      rw [hT2] at HT
      have HS := Lib.hid hS
      have HBC := Lib.hid hbc
      clear hS hA hbc hE hT2 hN2 hgd HRT HAS
      generalize tckS p j q s (stS p j q s x zs i) (zs.getD i 0) = ty at *
      generalize zs.getD i 0 = dr at *
      generalize nxtS (stS p j q s x zs i) = nx at *
      generalize stS p j q s x zs i = si at *
      have HCC := Lib.hid hcs
      have HOI := Lib.hid hok
      have HEI := Lib.hid hen
      clear hcs hok hen HOK HEN
      have c0 := (hC).cell 0
      have c1 := (hC).cell 1
      have c2 := (hC).cell 2
      have c3 := (hC).cell 3
      have c4 := (hC).cell 4
      have c5 := (hC).cell 5
      have c6 := (hC).cell 6
      have c7 := (hC).cell 7
      have c8 := (hC).cell 8
      simp only [List.getElem?_toArray, List.getElem?_cons_zero, List.getElem?_cons_succ] at c0 c1 c2 c3 c4 c5 c6 c7 c8
      have a0 := (hP).cell 0
      have a1 := (hP).cell 1
      have a2 := (hP).cell 2
      simp only [List.getElem?_toArray, List.getElem?_cons_zero, List.getElem?_cons_succ] at a0 a1 a2
      go_wp2_with fail
      refine (HNX.out _).mono ?_
      rintro e w2 ⟨rfl, b2⟩
      have hC2 := hC.below b2 hC.lt
      have hP2 := hP.below b2 hP.lt
      have hB2 := bnext hB b2
      have ho2 := own_below hown b2
      have hz2' := (b2.cell (p := ⟨bz, oz + i, none⟩) (cell_lt hcz)).trans hcz
      clear hC hP hB hown hcz b2
      clear c0 c1 c2 c3 c4 c5 c6 c7 c8 a0 a1 a2
      have c0 := (hC2).cell 0
      have c1 := (hC2).cell 1
      have c2 := (hC2).cell 2
      have c3 := (hC2).cell 3
      have c4 := (hC2).cell 4
      have c5 := (hC2).cell 5
      have c6 := (hC2).cell 6
      have c7 := (hC2).cell 7
      have c8 := (hC2).cell 8
      simp only [List.getElem?_toArray, List.getElem?_cons_zero, List.getElem?_cons_succ] at c0 c1 c2 c3 c4 c5 c6 c7 c8
      have a0 := (hP2).cell 0
      have a1 := (hP2).cell 1
      have a2 := (hP2).cell 2
      simp only [List.getElem?_toArray, List.getElem?_cons_zero, List.getElem?_cons_succ] at a0 a1 a2
      go_wp2_with fail
      refine (HA2.out _ hB2).mono ?_
      rintro e w3 ⟨rfl, b3⟩
      have hC := hC2.below b3 hC2.lt
      have hP := hP2.below b3 hP2.lt
      have hB := bnext hB2 b3
      have hown := own_below ho2 b3
      have hcz := (b3.cell (p := ⟨bz, oz + i, none⟩) (cell_lt hz2')).trans hz2'
      clear hC2 hP2 hB2 ho2 hz2' b3
      clear c0 c1 c2 c3 c4 c5 c6 c7 c8 a0 a1 a2
      by_cases her : btE oc si = 0
      case neg =>
        have her' : (btE oc si != 0) = true := by simpa using her
        have HER := Lib.hid her
        clear her
        go_wp2_with fail
        go_ret
        obtain rfl : i = N := by
          rcases Nat.lt_or_ge i N with h' | h'
          · exact absurd (HOI.out h') HER.out
          · omega
        exact ⟨_, rfl, hown, hB⟩
      case pos =>
      have hiN := HEI.out her
      have hq4 : oc = true ∧ okN nx = true := by
        rcases HCC.out with h' | h' | ⟨_, h1, _, h2⟩
        · omega
        · omega
        · exact ⟨h1, h2⟩
      have hb4 := hbd hq4.1
      have HT' := Lib.hid (fun V => HT.out (by omega) (by omega) (by omega) (by omega) hq4.2 V)
      unfold GivesR at HT'
      rw [her]
      clear HT HCC HOI HEI her hq4 hb4 HNX HA2
      have hkeep : ∀ W, Below w3.heap.size w3 W → (W.cell? ⟨w.heap.size, 0, none⟩ = some (.int .i64 p) ∧ W.cell? ⟨w.heap.size, 1, none⟩ = some (.int .i64 j) ∧ W.cell? ⟨w.heap.size, 2, none⟩ = some (.int .i64 t) ∧ W.cell? ⟨w.heap.size, 3, none⟩ = some (.int .i64 h) ∧ W.cell? ⟨w.heap.size, 4, none⟩ = some (.int .i64 g) ∧ W.cell? ⟨w.heap.size, 5, none⟩ = some (.int .i64 q) ∧ W.cell? ⟨w.heap.size, 6, none⟩ = some (.int .i64 s) ∧ W.cell? ⟨w.heap.size, 7, none⟩ = some (.int .i64 cp) ∧ W.cell? ⟨w.heap.size, 8, none⟩ = some (.slice A n k) ∧ W.cell? ⟨w.heap.size + 1, 0, none⟩ = some (.int .i64 si.1) ∧ W.cell? ⟨w.heap.size + 1, 1, none⟩ = some (.int .i64 si.2.1) ∧ W.cell? ⟨w.heap.size + 1, 2, none⟩ = some (.bool si.2.2) ∧ W.cell? ⟨bz, oz + i, none⟩ = some (.int .i64 dr)) := fun W hW => by
        have a := hC.below hW hC.lt
        have b := hP.below hW hP.lt
        have a0 := (a).cell 0
        have a1 := (a).cell 1
        have a2 := (a).cell 2
        have a3 := (a).cell 3
        have a4 := (a).cell 4
        have a5 := (a).cell 5
        have a6 := (a).cell 6
        have a7 := (a).cell 7
        have a8 := (a).cell 8
        simp only [List.getElem?_toArray, List.getElem?_cons_zero, List.getElem?_cons_succ] at a0 a1 a2 a3 a4 a5 a6 a7 a8
        have b0 := (b).cell 0
        have b1 := (b).cell 1
        have b2 := (b).cell 2
        simp only [List.getElem?_toArray, List.getElem?_cons_zero, List.getElem?_cons_succ] at b0 b1 b2
        exact ⟨a0, a1, a2, a3, a4, a5, a6, a7, a8, b0, b1, b2, (hW.cell (p := ⟨bz, oz + i, none⟩) (cell_lt hcz)).trans hcz⟩
      have HKP := Lib.hid hkeep
      clear hkeep
      have hSd : Below w3.heap.size w3 w3.drew := below_drewN (Below.refl _ _) 1
      have hSa : Below w3.heap.size w3 (w3.alloc (.cells #[.int .i64 0, .int .i64 0, .bool false] 28)).drew := below_drewN (balloc (Below.refl _ _) _) 1
      go_upto_region 8 with fail
      go_cut [10, 11] from 12 to 43 (fun a b wx => ∃ bo : Nat, a = .pointer (some ⟨bo, 0, none⟩) ∧ b = .int .i64 ty.2 ∧ Blk wx bo 28 #[.int .i64 ty.1.1, .int .i64 ty.1.2.1, .bool ty.1.2.2] ∧ w3.heap.size ≤ bo ∧ Below w3.heap.size w3 wx)
      case first =>
        go_region_held3 (fun w' => w'.cell? ⟨w.heap.size, 0, none⟩ = some (.int .i64 p) ∧ w'.cell? ⟨w.heap.size, 1, none⟩ = some (.int .i64 j) ∧ w'.cell? ⟨w.heap.size, 2, none⟩ = some (.int .i64 t) ∧ w'.cell? ⟨w.heap.size, 3, none⟩ = some (.int .i64 h) ∧ w'.cell? ⟨w.heap.size, 4, none⟩ = some (.int .i64 g) ∧ w'.cell? ⟨w.heap.size, 5, none⟩ = some (.int .i64 q) ∧ w'.cell? ⟨w.heap.size, 6, none⟩ = some (.int .i64 s) ∧ w'.cell? ⟨w.heap.size, 7, none⟩ = some (.int .i64 cp) ∧ w'.cell? ⟨w.heap.size, 8, none⟩ = some (.slice A n k) ∧ w'.cell? ⟨w.heap.size + 1, 0, none⟩ = some (.int .i64 si.1) ∧ w'.cell? ⟨w.heap.size + 1, 1, none⟩ = some (.int .i64 si.2.1) ∧ w'.cell? ⟨w.heap.size + 1, 2, none⟩ = some (.bool si.2.2) ∧ w'.cell? ⟨bz, oz + i, none⟩ = some (.int .i64 dr)) (first | exact HKP.out _ hSd | exact HKP.out _ hSa | exact HKP.out _ (bnext hSd (by assumption)) | exact HKP.out _ (balloc (bnext hSd (by assumption)) _) | exact HKP.out _ (bnext hSa (by assumption)) | exact HKP.out _ ((((bnext hSa (by assumption)).setCell (p := ⟨w3.heap.size, 0, none⟩) (Nat.le_refl _) _).setCell (p := ⟨w3.heap.size, 1, none⟩) (Nat.le_refl _) _).setCell (p := ⟨w3.heap.size, 2, none⟩) (Nat.le_refl _) _)) (first | (go_at_call 19; ((with_reducible refine (HT'.out w3.drew).mono ?_); rintro e w5 ⟨rfl, b5⟩)) | (go_at_call 19; ((with_reducible refine (HT'.out (w3.alloc (.cells #[.int .i64 0, .int .i64 0, .bool false] 28)).drew).mono ?_); rintro e w5 ⟨rfl, b5⟩; have z5 := zblkJ b5; have z0 := z5.cell 0; have z1 := z5.cell 1; have z2 := z5.cell 2; have z3 := z5.frozen 0; have z4 := z5.frozen 1; have z6 := z5.frozen 2; simp only [List.getElem?_toArray, List.getElem?_cons_zero, List.getElem?_cons_succ] at z0 z1 z2)))
        all_goals
          go_wp2_with fail
          go_meet
          first
          | exact ⟨w5.heap.size, rfl, rfl, Blk.new w5 28 #[.int .i64 ty.1.1, .int .i64 ty.1.2.1, .bool ty.1.2.2], Nat.le_trans hSd.size b5.size, balloc (bnext hSd b5) _⟩
          | exact ⟨w3.heap.size, rfl, rfl, pset z5, Nat.le_refl _, (((bnext hSa b5).setCell (p := ⟨w3.heap.size, 0, none⟩) (Nat.le_refl _) _).setCell (p := ⟨w3.heap.size, 1, none⟩) (Nat.le_refl _) _).setCell (p := ⟨w3.heap.size, 2, none⟩) (Nat.le_refl _) _⟩
      case rest =>
        obtain ⟨bo, rfl, rfl, hO, hbo, hW⟩ := hcut
        replace hC := hC.below hW hC.lt
        have hne : ¬ w.heap.size + 1 = bo := by have := hP.lt; omega
        have hno : ¬ w.heap.size = bo := by have := hP.lt; omega
        replace hP := hP.below hW hP.lt
        replace hB := bnext hB hW
        have hrow : ∀ b, u7.ownBlock = some b → w.heap.size + 2 ≤ b ∧ b < w3.heap.size := fun b hb => hown.lt b hb
        replace hown := own_below hown hW
        have hsz := hW.size
        have hsz2 := hB.size
        have hPl := hP.lt
        clear hSd hSa HKP HT' hW hcz
        have co0 := (hO).cell 0
        have co1 := (hO).cell 1
        have co2 := (hO).cell 2
        simp only [List.getElem?_toArray, List.getElem?_cons_zero, List.getElem?_cons_succ] at co0 co1 co2
        go_wp2_with (first
          | (at_builtin; refine wpList_append_rd rfl (.tmp 37) (.tmp 41) _ rfl (w.heap.size + 2) 52 i0 _ 2 16 Tryd.underlying46 hi0 hz0 hz1 hz2 rfl (by omega) u7 _ _ rfl (hown.alloc _) 1 1 [.int .i64 nx, .int .i64 ty.2] rfl rfl (Rd.new _ _ [.int .i64 nx, .int .i64 ty.2]) (by simp [Value.oneCell']) (by simp only [maxLen]; omega) (by omega) (by simp; omega) ?_; intro v1 w6 ho1 hg1 ha1; have gO := grow_blk hg1 (hO.alloc (.cells #[.int .i64 nx, .int .i64 ty.2] 52)) (fun b hb => by have := hrow b hb; omega); have gP := grow_blk hg1 (hP.alloc (.cells #[.int .i64 nx, .int .i64 ty.2] 52)) (fun b hb => by have := hrow b hb; omega); have gC := grow_blk hg1 (hC.alloc (.cells #[.int .i64 nx, .int .i64 ty.2] 52)) (fun b hb => by have := hrow b hb; omega); have o0 := gO.cell 0; have o1 := gO.cell 1; have o2 := gO.cell 2; have p0 := gP.cell 0; have p1 := gP.cell 1; have p2 := gP.cell 2; have f0 := gP.frozen 0; have f1 := gP.frozen 1; have f2 := gP.frozen 2; simp only [List.getElem?_toArray, List.getElem?_cons_zero, List.getElem?_cons_succ] at o0 o1 o2 p0 p1 p2))
        have hB6 : Below w.heap.size w w6 := Below.grown (balloc hB _) hg1 (by simp; omega) (fun b hb => by have := hrow b hb; omega)
        go_roundw
        case rel =>
          refine ⟨i + 1, by omega, by go_num, ?_, pfar gC (by omega), by rw [HS.out]; exact pset gP, pbel hB6 (by omega)⟩
          rw [HBC.out]
          exact own_off (own_off (own_off ho1 (by omega)) (by omega)) (by omega)
        case measure => simp [intOf]; omega
end Go.Proofs.YtlgkjboamfgbeaaDoor
