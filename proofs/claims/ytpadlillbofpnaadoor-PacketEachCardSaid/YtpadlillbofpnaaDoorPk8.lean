/- packet: a list cut into datagrams. -/
import Derived.Test.YtpadlillbofpnaaDoorPk7
namespace Go.Proofs.YtpadlillbofpnaaDoor
set_option linter.unusedVariables false
set_option linter.unusedSimpArgs false
open Go.RowKit
set_option maxRecDepth 100000
/-- the entries of a datagram: where they lie -/
structure Dg where
  A : Option Addr
  n : Nat
  c : Nat
deriving Inhabited
def dgL (cm : Int) (d : Dg) : List Value := [.int .i64 cm, .slice d.A d.n d.c]
theorem dgL_len (cm : Int) (d : Dg) : (dgL cm d).length = 2 := rfl
def dgC (cm : Int) (ds : List Dg) : List Value := ds.flatMap (dgL cm)
theorem dgC_len (cm : Int) (ds : List Dg) : (dgC cm ds).length = ds.length * 2 := rows_len (dgL_len cm) ds
theorem dgC_one (cm : Int) (ds : List Dg) : ∀ u ∈ dgC cm ds, u.oneCell' = true := rows_one (fun d u hu => by simp [dgL] at hu; rcases hu with rfl | rfl <;> rfl) ds
theorem dgC_app (cm : Int) (ds : List Dg) (d : Dg) : dgC cm (ds ++ [d]) = dgC cm ds ++ [.int .i64 cm, .slice d.A d.n d.c] := by simp [dgC, dgL]
/-- the piece at a place -/
def pcL (l : List Er) (i : Nat) : List Er := (l.drop (25 * i)).take 25
def Pcs (w : World) (p : Nat → Prop) (l : List Er) (ds : List Dg) : Prop := ∀ i d, ds[i]? = some d → d.n = (pcL l i).length ∧ d.n ≤ d.c ∧ d.c ≤ 9223372036854775807 ∧ RdP w p d.A (erC (pcL l i))
theorem Pcs.fr {w w' : World} {p q r : Nat → Prop} {l : List Er} {ds : List Dg} (h : Pcs w p l ds) (hf : Fr r w w') (h1 : ∀ b, p b → b < w.heap.size → r b) (h2 : ∀ b, p b → b < w.heap.size → q b) : Pcs w' q l ds := fun i d hd => by
  obtain ⟨k1, k2, k3, k4⟩ := h i d hd
  exact ⟨k1, k2, k3, k4.fr hf h1 h2⟩
theorem Pcs.snoc {w : World} {p : Nat → Prop} {l : List Er} {ds : List Dg} {d : Dg} (h : Pcs w p l ds) (hd : d.n = (pcL l ds.length).length ∧ d.n ≤ d.c ∧ d.c ≤ 9223372036854775807 ∧ RdP w p d.A (erC (pcL l ds.length))) : Pcs w p l (ds ++ [d]) := fun i x hx => by
  rcases Nat.lt_trichotomy i ds.length with hi | hi | hi
  · rw [List.getElem?_append_left hi] at hx
    exact h i x hx
  · subst hi
    rw [List.getElem?_append_right (Nat.le_refl _), Nat.sub_self] at hx
    simp at hx
    subst hx
    exact hd
  · rw [List.getElem?_eq_none (by simp; omega)] at hx
    cases hx
theorem dg_info : (Tryd.prog.info? 27).map (fun i => (i.zero, i.size, i.bytes)) = some (some (.agg #[.int .i64 0, .slice none 0 0]), 2, 32) := by kernel_rfl
theorem own_old {w : World} {base e size n : Nat} {v : Value} {xs : List Value} (h : w.ownsRow base e size v n xs) : ∀ k, v.ownBlock = some k → k < w.heap.size := own_lt h

set_option maxHeartbeats 4000000 in
theorem cut1_any (cm : Int) (l : List Er) (n c B bx : Nat) (hn : l.length = n) (A : Option Addr) (w : World) (hr : Rd w B A (erC l)) (hB : B ≤ w.heap.size) (hl : n ≤ 1048576) (hbx : Blk w bx 24 #[.int .i64 cm]) :
    Calls Tryd.prog 34 #[.slice A n c, .pointer (some ⟨bx, 0, none⟩)] w fun e w' => (∃ A' c', e = .returned (.agg #[.int .i64 cm, .slice A' n c']) ∧ n ≤ c' ∧ c' ≤ 9223372036854775807 ∧ RdP w' (fun b => w.heap.size ≤ b) A' (erC l)) ∧ Below w.heap.size w w' := by
  have hb1 : Below w.heap.size w (w.alloc (.cells #[.int .i64 0, .slice none 0 0] 27)) := balloc (Below.refl _ _) _
  have hx := Blk.new w 27 #[.int .i64 0, .slice none 0 0]
  have hbx1 := hbx.alloc (.cells #[.int .i64 0, .slice none 0 0] 27)
  have hbl := hbx.lt
  obtain ⟨w1, hw1⟩ : ∃ w1, w1 = w.alloc (.cells #[.int .i64 0, .slice none 0 0] 27) := ⟨_, rfl⟩
  have hr1 := hr.alloc hB (.cells #[.int .i64 0, .slice none 0 0] 27)
  have hsz : w1.heap.size = w.heap.size + 1 := by rw [hw1]; simp
  rw [← hw1] at hb1 hx hbx1 hr1
  have HC := Lib.hid (fun W (hW : Below w1.heap.size w1 W) => erclone_any l n hn A c B W (hr1.below (hW.mono (by omega))) hl (Nat.le_trans (by omega) hW.size))
  have HW1 := Lib.hid hw1
  have HX := Lib.hid hx
  have HB1 := Lib.hid hb1
  have q0 := hbx1.cell 0
  simp only [List.getElem?_toArray, List.getElem?_cons_zero] at q0
  have s1 : w1.cell? ⟨bx, 0, none⟩ = some (.int .i64 cm) := q0
  have s0 : w1.drew.cell? ⟨bx, 0, none⟩ = some (.int .i64 cm) := q0
  have d0 := (hx).cell 0
  have d1 := (hx).cell 1
  simp only [List.getElem?_toArray, List.getElem?_cons_zero, List.getElem?_cons_succ] at d0 d1
  have f0 := hx.frozen 0
  have f1 := hx.frozen 1
  have hbg : w.heap.size ≠ bx := by omega
  have hbl1 := hbx1.lt
  clear hw1 hb1 hx hr hr1 hn hbx hbx1
  go_enter Tryd.func34, Tryd.ntmps34
  go_wp2_with fail
  rw [← HW1.out]
  go_region_held3 (fun w' => w'.cell? ⟨bx, 0, none⟩ = some (.int .i64 cm))
    (first | exact s0 | exact s1 | exact (hb4.cell hbl1).trans q0 | exact (World.cell?_setCell_far _ ⟨w.heap.size, 1, none⟩ ⟨bx, 0, none⟩ _ hbg).trans ((World.cell?_setCell_far _ ⟨w.heap.size, 0, none⟩ ⟨bx, 0, none⟩ _ hbg).trans ((hb4.cell hbl1).trans q0)))
    ((go_at_call 35; refine (HC.out _ (by first | exact Below.refl _ _ | exact below_drewN (Below.refl _ _) 1)).mono ?_; rintro e w4 ⟨v4, rfl, ho4, hb4⟩; obtain ⟨A4, c4, rfl, p1, p2, p3, p4⟩ := own_row ho4; have y4 := HX.out.below (below_of_drewN (n := 1) hb4) HX.out.lt; have e0 := y4.cell 0; have e1 := y4.cell 1; have g0 := y4.frozen 0; have g1 := y4.frozen 1; simp only [List.getElem?_toArray, List.getElem?_cons_zero, List.getElem?_cons_succ] at e0 e1))
  have hb5 : Below w1.heap.size w1 w4 := below_of_drewN (n := 1) hb4
  have z := (y4.set 0 (.int .i64 cm)).set 1 (.slice A4 n c4)
  simp only [List.setIfInBounds_toArray, List.set_cons_zero, List.set_cons_succ] at z
  have z0 := z.cell 0
  have z1 := z.cell 1
  simp only [List.getElem?_toArray, List.getElem?_cons_zero, List.getElem?_cons_succ] at z0 z1
  have hA4 : ∀ a, A4 = some a → w.heap.size + 1 ≤ a.block := fun a ha => by
    have h1 : w1.heap.size ≤ a.block := p4 a ha
    omega
  have hA5 : ∀ a, A4 = some a → w.heap.size ≠ a.block := fun a ha e => by
    have h1 := hA4 a ha
    omega
  have hr4 := (p3.off (i := 0) hA5 (.int .i64 cm)).off (i := 1) hA5 (.slice A4 n c4)
  have hbz : Below w.heap.size w ((w4.setCell ⟨w.heap.size, 0, none⟩ (.int .i64 cm)).setCell ⟨w.heap.size, 1, none⟩ (.slice A4 n c4)) := ((bnext HB1.out hb5).setCell (p := ⟨w.heap.size, 0, none⟩) (Nat.le_refl _) _).setCell (p := ⟨w.heap.size, 1, none⟩) (Nat.le_refl _) _
  clear y4 e0 e1 g0 g1 z
  go_wp2_with fail
  refine bodyPost_ret (v := .agg #[.int .i64 cm, .slice A4 n c4]) (by simp [results, Tryd.results34, go_sem, z0, z1]) rfl ?_
  exact ⟨⟨A4, c4, rfl, p1, by unfold maxLen at p2; omega, hr4.to (fun a ha _ => by have := hA4 a ha; omega)⟩, hbz⟩

/-- what cut hands back -/
def CutQ (cm : Int) (l : List Er) (w : World) (e : Ending) (w' : World) : Prop :=
  ∃ v ds, e = .returned v ∧ w'.ownsRow w.heap.size 27 2 v ds.length (dgC cm ds) ∧ Pcs w' (fun b => w.heap.size ≤ b ∧ v.ownBlock ≠ some b) l ds ∧ ds.length = (l.length + 24) / 25 ∧ Below w.heap.size w w'

set_option maxHeartbeats 8000000 in
theorem pcut_any (cm : Int) (l : List Er) (n c B bx : Nat) (hn : l.length = n) (A : Option Addr) (w : World) (hr : Rd w B A (erC l)) (hB : B ≤ w.heap.size) (hnc : n ≤ c ∧ c ≤ 9223372036854775807) (hl : n ≤ 1000) (hbx : Blk w bx 24 #[.int .i64 cm]) :
    Calls Tryd.prog 33 #[.slice A n c, .int .i64 25, .func (.func 34) #[] #[.pointer (some ⟨bx, 0, none⟩)]] w (CutQ cm l w) := by
  obtain ⟨i0, hi0, hz0, hz1, hz2⟩ := info_parts dg_info
  have HN := Lib.hid hn
  have HR := Lib.hid hr
  have HBX := Lib.hid hbx
  clear hn hr hbx
  go_enter Tryd.func33, Tryd.ntmps33
  go_wp2
  go_loopw [0, 7] (fun rest out wr => ∃ (ds : List Dg) (Aj : Option Addr) (nj cj : Nat), rest = .slice Aj nj cj ∧ nj = n - 25 * ds.length ∧ nj ≤ cj ∧ cj ≤ 9223372036854775807 ∧ ds.length ≤ (n + 24) / 25 ∧ Rd w B Aj (erC (l.drop (25 * ds.length))) ∧
      wr.ownsRow w.heap.size 27 2 out ds.length (dgC cm ds) ∧ Pcs wr (fun b => w.heap.size ≤ b ∧ out.ownBlock ≠ some b) l ds ∧ Below w.heap.size w wr) (fun rest _ _ => match rest with | .slice _ m _ => m | _ => 0)
  case atStart => exact ⟨[], A, n, c, rfl, by simp, hnc.1, hnc.2, by simp, by simpa using HR.out, World.ownsRow_nil _ _ _ _, fun i d hd => by simp at hd, Below.refl _ _⟩
  case round =>
    obtain ⟨ds, Aj, nj, cj, rfl, hnj, hjc, hc63, hdl, hrj, hown, hps, hb⟩ := hrel
    have HB := Lib.hid hb
    have HO := Lib.hid hown
    have HP := Lib.hid hps
    have HJ := Lib.hid hrj
    clear hb hown hps hrj
    by_cases h0 : 0 < nj
    case neg =>
      have hz : nj = 0 := by omega
      have hk : ds.length = (n + 24) / 25 := by omega
      subst hz
      go_wp2_with fail
      go_ret
      exact ⟨_, ds, rfl, HO.out, HP.out, by rw [HN.out]; exact hk, HB.out⟩
    case pos =>
      obtain ⟨q, hq⟩ : ∃ q, q = min 25 nj := ⟨_, rfl⟩
      have hmin : min (25 : Int) (nj : Int) = (q : Int) := by omega
      have hq1 : 1 ≤ q := by omega
      have hq2 : q ≤ nj := by omega
      have hlen : (l.drop (25 * ds.length)).length = nj := by rw [List.length_drop, HN.out]; exact hnj.symm
      have hpl : (pcL l ds.length).length = q := by unfold pcL; rw [List.length_take, hlen, hq]
      have hrp : Rd wr wr.heap.size Aj (erC (pcL l ds.length)) := by
        have h1 := (HJ.out.below (HB.out.mono hB)).more (Nat.le_trans hB HB.out.size)
        rw [← List.take_append_drop 25 (l.drop (25 * ds.length)), erC_app] at h1
        exact h1.pre
      have HC1 := Lib.hid (cut1_any cm (pcL l ds.length) q q wr.heap.size bx hpl Aj wr hrp (Nat.le_refl _) (by omega) (HBX.out.below HB.out HBX.out.lt))
      obtain ⟨b, off, hAe, hbb, _⟩ := HJ.out (by rw [erC_len, hlen]; omega)
      subst hAe
      have HLEN := Lib.hid hlen
      have HPL := Lib.hid hpl
      have i1 : (0 : Int) < (nj : Int) := by omega
      have i2 : (0 : Int) ≤ (q : Int) ∧ (q : Int) ≤ (nj : Int) ∧ (q : Int) ≤ (cj : Int) := by omega
      have i3 : q ≤ cj := by omega
      have i4 : ¬ q = 0 := by omega
      clear hrp hlen hpl hq
      have hqc : ¬ cj = q ∨ cj = q := by omega
      have HNJ := Lib.hid hnj
      have HDL := Lib.hid hdl
      have HMIN := Lib.hid (show q = 25 ∧ 25 ≤ nj ∨ q = nj ∧ nj < 25 from by omega)
      have hold := Lib.hid (own_old HO.out)
      have i5 : ds.length ≤ 1000 := by omega
      clear hnj hdl
      have KEY := Lib.hid (show (∀ (W2 : World) (A' : Option Addr) (c' : Nat) (v' : Value) (W4 : World), Below wr.heap.size wr W2 → q ≤ c' ∧ c' ≤ 9223372036854775807 → RdP W2 (fun b => wr.heap.size ≤ b) A' (erC (pcL l ds.length)) →
          (W2.alloc (.cells #[.int .i64 cm, .slice A' q c'] 27)).grownBy W4 u7.ownBlock → (v'.ownBlock = u7.ownBlock ∨ v'.ownBlock = some (W2.heap.size + 1)) →
          Pcs W4 (fun b => w.heap.size ≤ b ∧ v'.ownBlock ≠ some b) l (ds ++ [⟨A', q, c'⟩]) ∧ Below w.heap.size w W4) from fun W2 A' c' v' W4 b2 hc' hA' g4 a4 => by
        have f2 : Fr (fun b => u7.ownBlock ≠ some b) W2 W4 := (Fr.alloc _).trans (Fr.grown g4 (fun b hb => hb))
        have f1 : Fr (fun b => u7.ownBlock ≠ some b) wr W4 := (Fr.of_below b2).trans f2
        have hs := b2.size
        refine ⟨(HP.out.fr f1 (fun b hb _ => hb.2) (fun b hb hl => ⟨hb.1, fun e => ?_⟩)).snoc ⟨HPL.out.symm, hc'.1, hc'.2, hA'.fr f2 (fun b hb _ e => ?_) (fun b hb hl => ⟨Nat.le_trans HB.out.size hb, fun e => ?_⟩)⟩, (balloc (bnext HB.out b2) _).grown g4 (by simp; have := HB.out.size; omega) (own_base HO.out)⟩
        · have := hold.out _ e; omega
        · rcases a4 with h | h
          · rw [h] at e; have := hold.out _ e; omega
          · rw [h] at e; injection e with e; omega
        · rcases a4 with h | h
          · exact hb.2 (h ▸ e)
          · rw [h] at e; injection e with e; omega)
      have KEY2 := Lib.hid (show (q < nj → Rd w B ((some (⟨b, off, none⟩ : Addr)).map (fun x => x.add (q * 6))) (erC (l.drop (25 * (ds.length + 1))))) from fun hlt => by
        have hq25 : q = 25 := by have := HMIN.out; omega
        subst hq25
        have h1 := HJ.out.cut (25 * 6) ((nj - 25) * 6) (by omega) (by rw [erC_len, HLEN.out]; omega)
        unfold erC at h1
        rw [rows_cut erL_len, List.drop_drop, List.take_of_length_le (by rw [List.length_drop, HN.out]; have := HNJ.out; omega), show 25 * ds.length + 25 = 25 * (ds.length + 1) by omega] at h1
        exact h1)
      have KEY3 := Lib.hid (show (nj - q = n - 25 * (ds.length + 1) ∧ ds.length + 1 ≤ (n + 24) / 25) from by have h1 := HNJ.out; have h2 := HMIN.out; omega)
      rcases hqc with hqc | hqc
      · go_wp2_with (first
          | (refine HC1.out.mono ?_; rintro e W2 ⟨⟨A', c', rfl, k1, k2, k3⟩, k4⟩
             have hsz : w.heap.size ≤ W2.heap.size := Nat.le_trans HB.out.size k4.size
             have ho2 := Lib.hid ((own_below HO.out k4).alloc (.cells #[.int .i64 cm, .slice A' q c'] 27))
             have HNW := Lib.hid (Rd.newL W2 27 #[.int .i64 cm, .slice A' q c'] [.int .i64 cm, .slice A' q c'] rfl))
          | (at_builtin; refine wpList_append_rd rfl (.tmp 16) (.tmp 23) _ rfl w.heap.size 27 i0 _ 2 32 Tryd.underlying39 hi0 hz0 hz1 hz2 rfl (by decide) _ ds.length _ rfl ho2.out 1 1 [.int .i64 cm, .slice A' q c'] rfl rfl HNW.out (by simp [Value.oneCell']) (by simp only [maxLen]; omega) (by omega) (by simp; omega) ?_; intro v' w4 o4 g4 a4; have a5 : v'.ownBlock = u7.ownBlock ∨ v'.ownBlock = some (W2.heap.size + 1) := by { rw [World.size_alloc] at a4; exact a4 }; clear a4; obtain ⟨kk1, kk2⟩ := KEY.out W2 A' c' v' w4 k4 ⟨k1, k2⟩ k3 g4 a5))
        refine ⟨⟨ds ++ [⟨A', q, c'⟩], _, nj - q, cj - q, rfl, by rw [List.length_append]; exact KEY3.out.1, by omega, by omega, by rw [List.length_append]; exact KEY3.out.2, ?_, ?_, kk1, kk2⟩, ?_⟩
        · rw [List.length_append, List.length_singleton]
          by_cases hlt : q < nj
          · have hk := KEY2.out hlt
            simp only [Option.map_some, Addr.add, if_neg (show ¬ q * 6 = 0 by omega)] at hk
            exact hk
          · rw [List.drop_eq_nil_of_le (by rw [HN.out]; have := KEY3.out.1; simp; omega)]; exact Rd.nil
        · rw [List.length_append, dgC_app]; exact o4
        · show nj - q < nj; omega
      · go_wp2_with (first
          | (refine HC1.out.mono ?_; rintro e W2 ⟨⟨A', c', rfl, k1, k2, k3⟩, k4⟩
             have hsz : w.heap.size ≤ W2.heap.size := Nat.le_trans HB.out.size k4.size
             have ho2 := Lib.hid ((own_below HO.out k4).alloc (.cells #[.int .i64 cm, .slice A' q c'] 27))
             have HNW := Lib.hid (Rd.newL W2 27 #[.int .i64 cm, .slice A' q c'] [.int .i64 cm, .slice A' q c'] rfl))
          | (at_builtin; refine wpList_append_rd rfl (.tmp 16) (.tmp 23) _ rfl w.heap.size 27 i0 _ 2 32 Tryd.underlying39 hi0 hz0 hz1 hz2 rfl (by decide) _ ds.length _ rfl ho2.out 1 1 [.int .i64 cm, .slice A' q c'] rfl rfl HNW.out (by simp [Value.oneCell']) (by simp only [maxLen]; omega) (by omega) (by simp; omega) ?_; intro v' w4 o4 g4 a4; have a5 : v'.ownBlock = u7.ownBlock ∨ v'.ownBlock = some (W2.heap.size + 1) := by { rw [World.size_alloc] at a4; exact a4 }; clear a4; obtain ⟨kk1, kk2⟩ := KEY.out W2 A' c' v' w4 k4 ⟨k1, k2⟩ k3 g4 a5))
        refine ⟨⟨ds ++ [⟨A', q, c'⟩], _, nj - q, 0, rfl, by rw [List.length_append]; exact KEY3.out.1, by omega, by omega, by rw [List.length_append]; exact KEY3.out.2, ?_, ?_, kk1, kk2⟩, ?_⟩
        · rw [List.length_append]
          rw [List.drop_eq_nil_of_le (by rw [HN.out]; have := KEY3.out.1; simp; omega)]; exact Rd.nil
        · rw [List.length_append, dgC_app]; exact o4
        · show nj - q < nj; omega
end Go.Proofs.YtpadlillbofpnaaDoor
