/- PacketCuts: the walk. -/
import Derived.Test.YtpadlillbofpnaaDoorPkG
namespace Go.Proofs.YtpadlillbofpnaaDoor
set_option linter.unusedVariables false
set_option linter.unusedSimpArgs false
open Go.RowKit
set_option maxRecDepth 100000
theorem dg_at {w : World} {B : Nat} {A : Option Addr} {cm : Int} {ds : List Dg} (h : Rd w B A (dgC cm ds)) {i : Nat} {d : Dg} (hi : ds[i]? = some d) :
    ∃ b off, A = some ⟨b, off, none⟩ ∧ b < B ∧ w.cell? ⟨b, off + i * 2, none⟩ = some (.int .i64 cm) ∧ w.cell? ⟨b, off + i * 2 + 1, none⟩ = some (.slice d.A d.n d.c) := by
  obtain ⟨b, off, e, hb, hc⟩ := rows_at (dgL_len cm) (by omega) h hi
  exact ⟨b, off, e, hb, hc 0 _ rfl, by have := hc 1 _ rfl; rwa [← Nat.add_assoc] at this⟩
theorem take_piece (l : List Er) (j : Nat) : l.take (25 * (j + 1)) = l.take (25 * j) ++ pcL l j := by
  unfold pcL
  rw [show 25 * (j + 1) = 25 * j + 25 by omega, List.take_add]
theorem cut_fit (cm : Int) (l : List Er) : cutE cm l = 0 ∧ cutN cm l = (l.length + 24) / 25 ∨ cutE cm l = 2 ∧ cutN cm l = 0 := by
  unfold cutE cutN
  split
  · exact .inl ⟨rfl, rfl⟩
  · exact .inr ⟨rfl, rfl⟩
set_option maxHeartbeats 1000000 in
theorem pcuts_walk (cm : Int) (l : List Er) (n : Nat) (hn : l.length = n) (A : Option Addr) (c : Nat) (w : World) (hw : WidthsAt w) (hr : Rd w w.heap.size A (erC l)) (hf : ∀ e ∈ l, fitR e) (hnc : n ≤ c ∧ c ≤ 9223372036854775807) :
    Calls Tryd.prog 4 #[.int .i64 cm, .slice A n c] w fun e w' => e = .returned (.bool true) ∧ Below w.heap.size w w' := by
  obtain ⟨i1, hi1, hy0, hy1, hy2⟩ := info_parts ent_info
  have HWK := Lib.hid (fun W (h : Below w.heap.size w W) => works5_any W (hw.below h))
  have HC1 := Lib.hid (fun (h : n ≤ 1000) => cut_all cm l n c hn A w hr hf hw hnc h)
  have HC2 := Lib.hid (fun (h : n ≤ 1000) W (hW : Below w.heap.size w W) => refcut_any cm l n c hn A W (hr.next hW) hnc h)
  have HR := Lib.hid hr
  have HN := Lib.hid hn
  clear hw hr hn hf
  by_cases h12 : n ≤ 120
  case neg =>
    have h12' : (120 : Int) < (n : Int) := by omega
    go_enter Tryd.func4, Tryd.ntmps4
    go_wp2_with (go_at_call 8; refine (HWK.out _ (Below.refl _ _)).mono ?_; rintro e w' ⟨rfl, b⟩)
    go_ret
    exact ⟨rfl, b⟩
  have h12' : (n : Int) ≤ 120 := by omega
  have H1 := Lib.hid (HC1.out (by omega))
  have H2 := Lib.hid (HC2.out (by omega))
  clear HC1 HC2
  unfold CutR at H1 H2
  have HFI := Lib.hid (cut_fit cm l)
  generalize hE : cutE cm l = E at *
  generalize hk : cutN cm l = k at *
  clear hE hk
  rw [HN.out] at HFI
  have hk5 : k ≤ 5 := by have := HFI.out; omega
  go_enter Tryd.func4, Tryd.ntmps4
  go_wp2_with fail
  refine H1.out.mono ?_
  rintro e w2 ⟨A2, ds2, c2, rfl, f1, f2, f3, f4, f5, f6⟩
  rw [f1] at f2 ⊢
  have HB2 := Lib.hid f6
  clear f6 H1
  go_wp2_with fail
  refine (H2.out _ HB2.out).mono ?_
  rintro e w3 ⟨A3, ds3, c3, rfl, g1, g2, g3, g4, g5, g6⟩
  rw [g1] at g2 ⊢
  have HB3 := Lib.hid (bnext HB2.out g6)
  have HR2 := Lib.hid (f4.next g6)
  have HP2 := Lib.hid (f5.fr (Fr.of_below (p := fun _ => True) g6) (fun _ _ _ => trivial) (fun _ h _ => h))
  have HR3 := Lib.hid g4
  have HP3 := Lib.hid g5
  have HL2 := Lib.hid f1
  have HL3 := Lib.hid g1
  have hs3 := HB3.out.size
  clear f1 f4 f5 g1 g4 g5 g6 H2
  go_wp2_with (go_at_call 12; refine (num_any _ _).mono ?_; rintro e w' ⟨rfl, rfl⟩)
  go_loopw [9, 10] (fun all i wr => ∃ j : Nat, j ≤ k ∧ i = .int .i64 j ∧ Below w3.heap.size w3 wr ∧ wr.ownsRow w3.heap.size 55 6 all (l.take (25 * j)).length (erC (l.take (25 * j)))) (fun _ i _ => k - (intOf i).toNat)
  case atStart => exact ⟨0, Nat.zero_le _, rfl, Below.refl _ _, World.ownsRow_nil _ _ _ _⟩
  case round =>
    obtain ⟨j, hj, rfl, hb, ho⟩ := hrel
    have HB := Lib.hid hb
    have HO := Lib.hid ho
    clear hb ho
    by_cases hlt : j < k
    · have hj2 : (0 : Int) ≤ (j : Int) ∧ (j : Int) < (k : Int) := by omega
      obtain ⟨d2, hd2⟩ : ∃ d, ds2[j]? = some d := ⟨ds2[j]'(by rw [HL2.out]; exact hlt), List.getElem?_eq_getElem _⟩
      obtain ⟨d3, hd3⟩ : ∃ d, ds3[j]? = some d := ⟨ds3[j]'(by rw [HL3.out]; exact hlt), List.getElem?_eq_getElem _⟩
      obtain ⟨x1, x2, x3, x4⟩ := HP2.out j d2 hd2
      obtain ⟨y1, y2, y3, y4⟩ := HP3.out j d3 hd3
      obtain ⟨b2, o2, hA2, hb2, s0, s1⟩ := dg_at HR2.out hd2
      obtain ⟨b3, o3, hA3, hb3, t0, t1⟩ := dg_at HR3.out hd3
      subst hA2
      subst hA3
      have R2 := x4.rd
      have R3 := y4.rd
      have hpl : (pcL l j).length ≤ 25 := by unfold pcL; rw [List.length_take]; omega
      obtain ⟨A4, n4, c4⟩ := d2
      obtain ⟨A5, n5, c5⟩ := d3
      simp only at x1 x2 x3 y1 y2 y3 s1 t1 R2 R3
      rw [← y1] at x1
      subst x1
      have HPL := Lib.hid y1
      have HR4 := Lib.hid ((R2.below HB.out).more HB.out.size)
      have hne : Nonempty (Sub wr) := ⟨⟨_, Below.refl _ _⟩⟩
      have HS := Lib.hid (fun v : Sub wr => refpksame_any cm cm (pcL l j) (pcL l j) n4 n4 c4 c5 HPL.out.symm HPL.out.symm A4 A5 v.1 ((R2.below (HB.out.trans (v.2.mono HB.out.size))).more (Nat.le_trans HB.out.size v.2.size)) ((R3.below (HB.out.trans (v.2.mono HB.out.size))).more (Nat.le_trans HB.out.size v.2.size)) (by omega))
      rw [show decide (cm = cm ∧ pcL l j = pcL l j) = true from decide_eq_true ⟨rfl, rfl⟩] at HS
      have hq : ∀ (v : Sub wr) (b i : Nat) u, b < w3.heap.size → w3.cell? ⟨b, i, none⟩ = some u → v.1.cell? ⟨b, i, none⟩ = some u := fun v b i u hb h => ((HB.out.trans (v.2.mono HB.out.size)).cell (p := ⟨b, i, none⟩) hb).trans h
      have e0 := fun v : Sub wr => hq v b2 _ _ hb2 s0
      have e1 := fun v : Sub wr => hq v b2 _ _ hb2 s1
      have e2 := fun v : Sub wr => hq v b3 _ _ hb3 t0
      have e3 := fun v : Sub wr => hq v b3 _ _ hb3 t1
      clear hq s0 s1 t0 t1 R2 R3 x4 y4 hd2 hd3
      have hn4 : n4 ≤ 25 := by omega
      have hj3 : (0 : Int) ≤ (j : Int) := by omega
      have hj4 : (j : Int) < (k : Int) := by omega
      clear y1 hpl
      go_wp2_with fail
      refine region_sub (by kernel_rfl) (by kernel_rfl) ?_
      repeat (first | go_big_quiet_step (((go_at_call 11; exact sub_below (HS.out _)))) | quiet_step (((go_at_call 11; exact sub_below (HS.out _)))))
      refine wpQuiet_nil ?_
      rintro _ ⟨v, rfl⟩
      have z1 := e1 v
      have HB4 := Lib.hid (HB.out.trans (v.2.mono HB.out.size))
      have HO4 := Lib.hid (own_below HO.out v.2)
      have HR5 := Lib.hid ((HR4.out.below v.2).more v.2.size)
      obtain ⟨w4, hw4⟩ := v
      simp only at z1 HB4 HO4 HR5 ⊢
      have hs4 := HB4.out.size
      clear e0 e1 e2 e3 hne HS hw4
      have ht : (l.take (25 * j)).length ≤ 120 := by rw [List.length_take, HN.out]; omega
      obtain ⟨t, htt⟩ : ∃ t, t = (l.take (25 * j)).length := ⟨_, rfl⟩
      rw [← htt] at HO4 ht
      have HT := Lib.hid htt
      clear htt
      go_wp2_with (at_builtin; refine wpList_append_rd rfl (.tmp 54) (.tmp 59) _ rfl w3.heap.size 55 i1 _ 6 32 Tryd.underlying25 hi1 hy0 hy1 hy2 rfl (by decide) _ t _ rfl HO4.out n4 c4 (erC (pcL l j)) rfl (by rw [erC_len, ← HPL.out]) HR5.out (erC_one _) (by simp only [maxLen]; omega) (by omega) hs4 ?_; intro v' w5 o5 g5 a5)
      go_roundw
      case rel => exact ⟨j + 1, by omega, by go_num, HB4.out.grown g5 hs4 (own_base HO4.out), by rw [take_piece, erC_app, List.length_append, ← HPL.out, ← HT.out]; exact o5⟩
      case measure => simp [intOf]; omega
    · obtain rfl : j = k := by omega
      by_cases hE : E = 0
      · subst hE
        have hj : j = (n + 24) / 25 := by have := HFI.out; omega
        have ho := HO.out
        rw [List.take_of_length_le (by rw [HN.out]; omega), HN.out] at ho
        obtain ⟨A9, c9, rfl, k1, k2, k3, k4⟩ := own_row ho
        have HS := Lib.hid (ersame_any l l n n c9 c _ _ HN.out HN.out A9 A wr k3 (HR.out.below (bnext HB3.out HB.out)) (by omega))
        rw [decide_eq_true (rfl : l = l)] at HS
        clear ho hj k1 k2 k3 k4 HO
        go_wp2_with (first
          | (go_at_call 17; refine HS.out.mono ?_; rintro e w9 ⟨rfl, mm, rfl⟩)
          | (go_at_call 8; refine (HWK.out _ (below_drewN (bnext HB3.out HB.out) _)).mono ?_; rintro e w' ⟨rfl, b⟩))
        go_ret
        exact ⟨rfl, bnext (bnext HB3.out HB.out) (below_of_drewN b)⟩
      · have hE' : (E != 0) = true := by simpa using hE
        go_wp2_with (go_at_call 8; refine (HWK.out _ (bnext HB3.out HB.out)).mono ?_; rintro e w' ⟨rfl, b⟩)
        go_ret
        exact ⟨rfl, bnext (bnext HB3.out HB.out) b⟩
end Go.Proofs.YtpadlillbofpnaaDoor
