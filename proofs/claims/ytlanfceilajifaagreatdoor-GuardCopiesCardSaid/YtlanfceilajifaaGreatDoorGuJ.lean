/- GuardCounts: the walk. -/
import Derived.Test.YtlanfceilajifaaGreatDoorGuI
import Derived.Test.YtlanfceilajifaaGreatDoorGu9
namespace Go.Proofs.YtlanfceilajifaaGreatDoor
set_option linter.unusedVariables false
set_option linter.unusedSimpArgs false
open Go.RowKit
set_option maxRecDepth 100000
attribute [local go_sem ↓] loadVar_T storeVar_T
attribute [local go_sem] run_ld16 run_st16 tF_ok tF_size
structure Ac16 where
  wh : Int
  er : Int
  re : Int
  ma : Int
def acL16 (x : Ac16) : List Value := [.int .i64 x.wh, .int .i64 x.er, .int .i64 x.re, .int .i64 x.ma]
theorem acL16_len (x : Ac16) : (acL16 x).length = 4 := rfl
theorem ac_at {w : World} {B : Nat} {A : Option Addr} {l : List Ac16} (h : Rd w B A (l.flatMap acL16)) {i : Nat} {x : Ac16} (hi : l[i]? = some x) :
    ∃ b off, A = some ⟨b, off, none⟩ ∧ b < B ∧ w.cell? ⟨b, off + i * 4, none⟩ = some (.int .i64 x.wh) ∧ w.cell? ⟨b, off + i * 4 + 1, none⟩ = some (.int .i64 x.er) ∧ w.cell? ⟨b, off + i * 4 + 2, none⟩ = some (.int .i64 x.re) ∧ w.cell? ⟨b, off + i * 4 + 3, none⟩ = some (.int .i64 x.ma) := by
  obtain ⟨b, off, e, hb, hc⟩ := rows_at acL16_len (by omega) h hi
  exact ⟨b, off, e, hb, hc 0 _ rfl, hc 1 _ rfl, hc 2 _ rfl, hc 3 _ rfl⟩
theorem okZ16 : okRow 16 #[.int .i64 0, .int .i64 0, .int .i64 0, .int .i64 0, .int .i64 0, .int .i64 0, .int .i64 0, .int .i64 0, .int .i64 0, .int .i64 0, .int .i64 0, .int .i64 0, .int .i64 0, .int .i64 0, .int .i64 0, .int .i64 0] = true := by decide +kernel
/-- a tally and the document's, in a block of its own -/
structure Two (w : World) (B g b : Nat) (L : List Int) : Prop where
  ta : Ta w g L
  blk : Blk w b 68 (tF (ftal L))
  ge : B ≤ g
  be : B ≤ b
  ne : b ≠ g
theorem Two.below {w w' : World} {B g b : Nat} {L : List Int} (h : Two w B g b L) (hb : Below w.heap.size w w') : Two w' B g b L := ⟨h.ta.below hb, h.blk.below hb h.blk.lt, h.ge, h.be, h.ne⟩

theorem Fr.new16 {p : Nat → Prop} {w w1 : World} (h : Fr p w w1) (o : Obj) (cs : Array Value) : Fr p w ((w1.alloc o).setRow w1.heap.size cs) :=
  ⟨h.1, h.2.1, h.2.2.1, by have := h.2.2.2.1; simp [World.setRow]; omega, fun k hk hl => by
    have h1 := h.2.2.2.1
    rw [setRow_other _ _ k cs (by omega), Below.heap_alloc w1 o k (by omega)]
    exact h.2.2.2.2 k hk hl⟩
theorem Fr.past16 {p : Nat → Prop} {w w1 : World} (h : Fr p w w1) (cs : Array Value) : Fr p w (w1.setRow w.heap.size cs) :=
  ⟨h.1, h.2.1, h.2.2.1, by simpa [World.setRow] using h.2.2.2.1, fun k hk hl => by
    rw [setRow_other _ _ k cs (by omega)]
    exact h.2.2.2.2 k hk hl⟩
theorem s_round {W : World} {L : List Int} {bw b off j : Nat} {x : Ac16} (h0 : Blk W bw 68 (tF (ftal L))) (h1 : W.cell? ⟨b, off + j * 4, none⟩ = some (.int .i64 x.wh) ∧ W.cell? ⟨b, off + j * 4 + 1, none⟩ = some (.int .i64 x.er) ∧ W.cell? ⟨b, off + j * 4 + 2, none⟩ = some (.int .i64 x.re) ∧ W.cell? ⟨b, off + j * 4 + 3, none⟩ = some (.int .i64 x.ma)) : rowOk W bw 0 16 = true ∧ rowOf W bw 0 16 = tF (ftal L) ∧ W.cell? ⟨b, off + j * 4, none⟩ = some (.int .i64 x.wh) ∧ W.cell? ⟨b, off + j * 4 + 1, none⟩ = some (.int .i64 x.er) ∧ W.cell? ⟨b, off + j * 4 + 2, none⟩ = some (.int .i64 x.re) ∧ W.cell? ⟨b, off + j * 4 + 3, none⟩ = some (.int .i64 x.ma) := by
  obtain ⟨i0, i1, i2⟩ := h0.row (tF_size _)
  exact ⟨i1, i2, h1⟩
/-- behind a call of act: what it handed back, in a frame's three slots -/
def Back (w : World) (g : Nat) (M : List Int) (a b c : Value) (wx : World) : Prop :=
  ∃ g' bo, a = .pointer (some ⟨g', 0, none⟩) ∧ b = .pointer (some ⟨bo, 0, none⟩) ∧ c = .bool true ∧ Ta wx g' M ∧ Blk wx bo 68 (tF (ftal M)) ∧ w.heap.size ≤ bo ∧ bo ≠ g' ∧ Fr (fun k => k ≠ g) w wx ∧ (g' = g ∨ w.heap.size ≤ g')
theorem back_new {w w5 : World} {g g' : Nat} {M : List Int} (hg : g < w.heap.size) (hT : Ta w5 g' M) (hF : Fr (fun k => k ≠ g) w.drew w5) (hgg : g' = g ∨ w.drew.heap.size ≤ g') :
    Back w g M (.pointer (some ⟨g', 0, none⟩)) (.pointer (some ⟨w5.heap.size, 0, none⟩)) (.bool true) ((w5.alloc (.cells #[.int .i64 0, .int .i64 0, .int .i64 0, .int .i64 0, .int .i64 0, .int .i64 0, .int .i64 0, .int .i64 0, .int .i64 0, .int .i64 0, .int .i64 0, .int .i64 0, .int .i64 0, .int .i64 0, .int .i64 0, .int .i64 0] 68)).setRow w5.heap.size (tF (ftal M))) := by
  have hl := hT.lt
  have hs : w.heap.size ≤ w5.heap.size := hF.2.2.2.1
  exact ⟨g', w5.heap.size, rfl, rfl, rfl, (hT.below (balloc (Below.refl _ _) _)).setRow_ne (by omega) _, (Blk.new w5 68 _).setRow _, hs, by omega, Fr.new16 ((Fr.drewN 1).trans hF) _ _, hgg⟩
theorem back_past {w w5 : World} {g g' : Nat} {M : List Int} (hg : g < w.heap.size) (hT : Ta w5 g' M) (hF : Fr (fun k => k ≠ g) (w.alloc (.cells #[.int .i64 0, .int .i64 0, .int .i64 0, .int .i64 0, .int .i64 0, .int .i64 0, .int .i64 0, .int .i64 0, .int .i64 0, .int .i64 0, .int .i64 0, .int .i64 0, .int .i64 0, .int .i64 0, .int .i64 0, .int .i64 0] 68)).drew w5) (hgg : g' = g ∨ (w.alloc (.cells #[.int .i64 0, .int .i64 0, .int .i64 0, .int .i64 0, .int .i64 0, .int .i64 0, .int .i64 0, .int .i64 0, .int .i64 0, .int .i64 0, .int .i64 0, .int .i64 0, .int .i64 0, .int .i64 0, .int .i64 0, .int .i64 0] 68)).drew.heap.size ≤ g') :
    Back w g M (.pointer (some ⟨g', 0, none⟩)) (.pointer (some ⟨w.heap.size, 0, none⟩)) (.bool true) (w5.setRow w.heap.size (tF (ftal M))) := by
  have hs : (w.alloc (.cells #[.int .i64 0, .int .i64 0, .int .i64 0, .int .i64 0, .int .i64 0, .int .i64 0, .int .i64 0, .int .i64 0, .int .i64 0, .int .i64 0, .int .i64 0, .int .i64 0, .int .i64 0, .int .i64 0, .int .i64 0, .int .i64 0] 68)).drew.heap.size = w.heap.size + 1 := by show (w.alloc _).heap.size = _; simp
  have hgn : g' ≠ w.heap.size := by omega
  have z5 : Blk w5 w.heap.size 68 #[.int .i64 0, .int .i64 0, .int .i64 0, .int .i64 0, .int .i64 0, .int .i64 0, .int .i64 0, .int .i64 0, .int .i64 0, .int .i64 0, .int .i64 0, .int .i64 0, .int .i64 0, .int .i64 0, .int .i64 0, .int .i64 0] := hF.blk (w := (w.alloc (.cells #[.int .i64 0, .int .i64 0, .int .i64 0, .int .i64 0, .int .i64 0, .int .i64 0, .int .i64 0, .int .i64 0, .int .i64 0, .int .i64 0, .int .i64 0, .int .i64 0, .int .i64 0, .int .i64 0, .int .i64 0, .int .i64 0] 68)).drew) (Blk.new w 68 #[.int .i64 0, .int .i64 0, .int .i64 0, .int .i64 0, .int .i64 0, .int .i64 0, .int .i64 0, .int .i64 0, .int .i64 0, .int .i64 0, .int .i64 0, .int .i64 0, .int .i64 0, .int .i64 0, .int .i64 0, .int .i64 0]) (by show w.heap.size ≠ g; omega)
  exact ⟨g', w.heap.size, rfl, rfl, rfl, hT.setRow_ne hgn _, z5.setRow _, Nat.le_refl _, Ne.symm hgn, Fr.past16 (((Fr.alloc _).trans (Fr.drewN 1)).trans hF) _, by omega⟩

set_option maxHeartbeats 8000000 in
theorem guardcounts_walk (l : List Ac16) (n k : Nat) (hn : l.length = n) (A : Option Addr) (w : World) (h : Rd w w.heap.size A (l.flatMap acL16)) (hk : n ≤ k ∧ k ≤ 9223372036854775807) (hm : ∀ x ∈ l, x.ma ≤ 9223372036854775807) (hR : RelsAt w) (hw : WidthsAt w) :
    Calls Tryz.prog 6 #[.slice A n k] w fun e w' => e = .returned (.bool true) ∧ Below w.heap.size w w' := by
  have HWK := Lib.hid (fun W (hb : Below w.heap.size w W) => works16_any W (hR.below hb) (hw.below hb))
  clear hR hw
  by_cases h60 : 60 < n
  · have d0 : decide ((60 : Int) < (n : Int)) = true := by simp; omega
    clear h60
    go_enter Tryz.func6, Tryz.ntmps6
    go_wp2_with fail
    refine (HWK.out w (Below.refl _ _)).mono ?_
    rintro e w1 ⟨rfl, b1⟩
    go_wp2_with fail
    go_ret
    exact ⟨rfl, b1⟩
  have d0 : decide ((60 : Int) < (n : Int)) = false := by simp; omega
  have hn60 : n ≤ 60 := by omega
  have HN := Lib.hid hn
  have HM := Lib.hid hm
  have HH := Lib.hid h
  have HZ := Lib.hid tF_zero
  have okz := okZ16
  clear h60 hn hm h
  go_enter Tryz.func6, Tryz.ntmps6
  go_wp2_with fail
  refine (gnew_any _).mono ?_
  rintro e w1 ⟨g0, rfl, hg0, hT0, b1⟩
  have n5 := rowIs_new w1 #[.int .i64 0, .int .i64 0, .int .i64 0, .int .i64 0, .int .i64 0, .int .i64 0, .int .i64 0, .int .i64 0, .int .i64 0, .int .i64 0, .int .i64 0, .int .i64 0, .int .i64 0, .int .i64 0, .int .i64 0, .int .i64 0] 68 16
  simp only [List.size_toArray, List.length_cons, List.length_nil, Nat.reduceAdd, beq_self_eq_true] at n5
  have HT0 := Lib.hid hT0
  have hgl := hT0.lt
  have HB1 := Lib.hid b1
  clear hT0 b1
  go_upto_region 4 with fail
  rw [HZ.out]
  have hTw : Two ((w1.alloc (.cells (tF (ftal zT)) 68)).setRow w1.heap.size (tF (ftal zT))) w.heap.size g0 w1.heap.size zT := ⟨(HT0.out.below (balloc (Below.refl _ _) _)).setRow_ne (by omega) _, (Blk.new w1 68 _).setRow _, hg0, HB1.out.size, by omega⟩
  have hBw : Below w.heap.size w ((w1.alloc (.cells (tF (ftal zT)) 68)).setRow w1.heap.size (tF (ftal zT))) := below_setRow16 (balloc HB1.out _) HB1.out.size _
  generalize (w1.alloc (.cells (tF (ftal zT)) 68)).setRow w1.heap.size (tF (ftal zT)) = w2 at *
  obtain ⟨bw, hbw⟩ : ∃ bw, w1.heap.size = bw := ⟨_, rfl⟩
  rw [hbw] at hTw ⊢
  have HTW := Lib.hid (And.intro hTw hBw)
  clear hbw hTw hBw HT0 HB1 n5 hg0 hgl
  go_wp2_with fail
  go_loopw [3, 5] (fun t i wr => ∃ j g L, j ≤ n ∧ i = .int .i64 (j : Nat) ∧ t = .pointer (some ⟨g, 0, none⟩) ∧ Two wr w.heap.size g bw L ∧ Below w.heap.size w wr) (fun _ i _ => n - (intOf i).toNat)
  case atStart => exact ⟨0, g0, zT, Nat.zero_le _, rfl, rfl, HTW.out.1, HTW.out.2⟩
  case round =>
    obtain ⟨j, g, L, hj, rfl, rfl, hTw, hB⟩ := hrel
    have HT := Lib.hid hTw
    have HB := Lib.hid hB
    clear hTw hB HTW
    by_cases hlt : j < n
    case neg =>
      obtain rfl : j = n := by omega
      have x4 := (HT.out.blk.row (tF_size _)).2
      obtain ⟨x41, x42⟩ := x4
      go_wp2_with fail
      refine (is16_any HT.out.ta).mono ?_
      rintro e w3 ⟨rfl, b3⟩
      clear x41 x42
      go_wp2_with fail
      refine (HWK.out w3 (bnext HB.out b3)).mono ?_
      rintro e w4 ⟨rfl, b4⟩
      have B4 := Lib.hid (bnext (bnext HB.out b3) b4)
      clear b3 b4
      go_wp2_with fail
      go_ret
      exact ⟨rfl, B4.out⟩
    obtain ⟨x, hx⟩ : ∃ x, l[j]? = some x := ⟨l[j]'(by rw [HN.out]; exact hlt), List.getElem?_eq_getElem _⟩
    obtain ⟨b, off, rfl, hbl, c0, c1, c2, c3⟩ := ac_at (HH.out.below HB.out) hx
    have HX := Lib.hid (HM.out x (List.mem_of_getElem? hx))
    have d1 : decide ((j : Int) < (n : Int)) = true := by simp; omega
    have hi0 : (0 : Int) ≤ (j : Int) := by omega
    have hi1 : (j : Int) < (n : Int) := by omega
    have hwk : IntKind.i64.wrap ((j : Int) + 1) = (j : Int) + 1 := IntWalk.i64_in _ ⟨by omega, by omega⟩
    have HAC := Lib.hid (fun W (hT : Ta W g L) => act_any x.wh x.er x.re x.ma HX.out hT)
    obtain ⟨M, hM⟩ : ∃ M, M = actL L x.wh x.er x.re x.ma := ⟨_, rfl⟩
    rw [← hM] at HAC
    clear hx hM
    go_upto_region 7 with fail
    have HK := Lib.hid (fun W (hW : Fr (fun k => k ≠ g) wr W) => s_round (x := x) (j := j) (hW.blk HT.out.blk HT.out.ne) ⟨hW.cell c0 (by show b ≠ g; have := HT.out.ge; omega), hW.cell c1 (by show b ≠ g; have := HT.out.ge; omega), hW.cell c2 (by show b ≠ g; have := HT.out.ge; omega), hW.cell c3 (by show b ≠ g; have := HT.out.ge; omega)⟩)
    have hF0 : Fr (fun k => k ≠ g) wr wr.drew := Fr.drewN 1
    have hFa : Fr (fun k => k ≠ g) wr (wr.alloc (.cells #[.int .i64 0, .int .i64 0, .int .i64 0, .int .i64 0, .int .i64 0, .int .i64 0, .int .i64 0, .int .i64 0, .int .i64 0, .int .i64 0, .int .i64 0, .int .i64 0, .int .i64 0, .int .i64 0, .int .i64 0, .int .i64 0] 68)).drew := (Fr.alloc _).trans (Fr.drewN 1)
    have HF0 := Lib.hid hF0
    have HFa := Lib.hid hFa
    have gl := HT.out.ta.lt
    clear hF0 hFa c0 c1 c2 c3
    go_cut [6, 7, 8] from 21 to 31 (fun a b c wx => Back wr g M a b c wx)
    case first =>
      go_region_held3 (fun W => rowOk W bw 0 16 = true ∧ rowOf W bw 0 16 = tF (ftal L) ∧ W.cell? ⟨b, off + j * 4, none⟩ = some (.int .i64 x.wh) ∧ W.cell? ⟨b, off + j * 4 + 1, none⟩ = some (.int .i64 x.er) ∧ W.cell? ⟨b, off + j * 4 + 2, none⟩ = some (.int .i64 x.re) ∧ W.cell? ⟨b, off + j * 4 + 3, none⟩ = some (.int .i64 x.ma)) (first | exact HK.out _ HF0.out | exact HK.out _ HFa.out | exact HK.out _ F6.out | exact HK.out _ (F6.out.trans (Fr.alloc _)) | exact HK.out _ (Fr.new16 F6.out _ _) | exact HK.out _ (Fr.past16 F6.out _))
        (first
        | (go_at_call 23; (with_reducible refine (HAC.out wr.drew (HT.out.ta.drew)).mono ?_); rintro e' w6 ⟨g', rfl, hT6, f6, hgg⟩; have F6 := Lib.hid (HF0.out.trans f6); have n5 := rowIs_new w6 #[.int .i64 0, .int .i64 0, .int .i64 0, .int .i64 0, .int .i64 0, .int .i64 0, .int .i64 0, .int .i64 0, .int .i64 0, .int .i64 0, .int .i64 0, .int .i64 0, .int .i64 0, .int .i64 0, .int .i64 0, .int .i64 0] 68 16; have HQ := Lib.hid (back_new gl hT6 f6 hgg); clear hT6 f6 hgg)
        | (go_at_call 23; (with_reducible refine (HAC.out (wr.alloc (.cells #[.int .i64 0, .int .i64 0, .int .i64 0, .int .i64 0, .int .i64 0, .int .i64 0, .int .i64 0, .int .i64 0, .int .i64 0, .int .i64 0, .int .i64 0, .int .i64 0, .int .i64 0, .int .i64 0, .int .i64 0, .int .i64 0] 68)).drew ((HT.out.ta.below (balloc (Below.refl _ _) _)).drew)).mono ?_); rintro e' w6 ⟨g', rfl, hT6, f6, hgg⟩; have F6 := Lib.hid (HFa.out.trans f6); obtain ⟨z50, z51, z52⟩ := (f6.blk (w := (wr.alloc (.cells #[.int .i64 0, .int .i64 0, .int .i64 0, .int .i64 0, .int .i64 0, .int .i64 0, .int .i64 0, .int .i64 0, .int .i64 0, .int .i64 0, .int .i64 0, .int .i64 0, .int .i64 0, .int .i64 0, .int .i64 0, .int .i64 0] 68)).drew) (Blk.new wr 68 #[.int .i64 0, .int .i64 0, .int .i64 0, .int .i64 0, .int .i64 0, .int .i64 0, .int .i64 0, .int .i64 0, .int .i64 0, .int .i64 0, .int .i64 0, .int .i64 0, .int .i64 0, .int .i64 0, .int .i64 0, .int .i64 0]) (by show wr.heap.size ≠ g; omega)).row (n := 16) rfl; have HQ := Lib.hid (back_past gl hT6 f6 hgg); clear hT6 f6 hgg))
      all_goals
        go_wp2_with fail
        go_meet
        exact HQ.out
    case rest =>
      obtain ⟨g', bo, rfl, rfl, rfl, hT', hB', hbo, hne', hF', hgg⟩ := hcut
      have hb2 := (hF'.blk HT.out.blk HT.out.ne)
      have x1 : rowIs wc.drew bw 16 = true := ((hb2.drewN 1).row (tF_size _)).1
      have hbwl := HT.out.blk.lt
      have hgg2 : g' ≠ bw := by have := HT.out.ne; omega
      have hbb : bo ≠ bw := by omega
      have HK2 := Lib.hid (fun W (hW : Fr (fun k => k ≠ bw) wc W) => ((hW.blk hB' hbb).row (tF_size _)).2)
      have HF2 := Lib.hid (show Fr (fun k => k ≠ bw) wc wc.drew from Fr.drewN 1)
      have HNE := Lib.hid (show ∀ k, k ≠ bw → k ≠ bw from fun _ h => h)
      have hTz : Two (wc.drew.setRow bw (tF (ftal M))) w.heap.size g' bw M := ⟨hT'.drew.setRow_ne hgg2 _, (hb2.drewN 1).setRow _, by have := HT.out.ge; have := HB.out.size; omega, HT.out.be, Ne.symm hgg2⟩
      have hBz : Below w.heap.size w (wc.drew.setRow bw (tF (ftal M))) := below_setRow16 (HB.out.trans ((hF'.trans (Fr.drewN 1)).below HB.out.size (fun b hb => by have := HT.out.ge; omega))) HT.out.be _
      have HTZ := Lib.hid hTz
      have HBZ := Lib.hid hBz
      clear hT' hB' hbo hne' hF' hgg hb2 hTz hBz
      go_upto_region 8 with fail
      go_region_held3 (fun W => rowOk W bo 0 16 = true ∧ rowOf W bo 0 16 = tF (ftal M)) (first | exact HK2.out _ HF2.out | exact HK2.out _ (HF2.out.trans (Fr.setRow HNE.out _))) (fail)
      generalize wc.drew.setRow bw (tF (ftal M)) = wz at *
      clear x1
      obtain ⟨y1, y2⟩ := (HTZ.out.blk.row (tF_size _)).2
      by_cases h43 : j % 4 = 3
      · have d4 : ((j : Int) % 4 == 3) = true := by rw [beq_iff_eq]; omega
        go_wp2_with fail
        refine (is16_any HTZ.out.ta).mono ?_
        rintro e w3 ⟨rfl, b3⟩
        have HB3 := Lib.hid b3
        clear b3 y1 y2
        go_wp2_with fail
        go_roundw
        case rel => exact ⟨j + 1, g', M, by omega, by go_num, rfl, HTZ.out.below HB3.out, bnext HBZ.out HB3.out⟩
        case measure => simp [intOf]; omega
      · have d4 : ((j : Int) % 4 == 3) = false := by rw [beq_eq_false_iff_ne]; omega
        go_wp2_with fail
        go_roundw
        case rel => exact ⟨j + 1, g', M, by omega, by go_num, rfl, HTZ.out, HBZ.out⟩
        case measure => simp [intOf]; omega
end Go.Proofs.YtlanfceilajifaaGreatDoor
