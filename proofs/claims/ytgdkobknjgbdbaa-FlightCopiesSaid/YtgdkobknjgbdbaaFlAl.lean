/- FlightAll: the walk. -/
import Derived.Test.YtgdkobknjgbdbaaFlQ
namespace Go.Proofs.Ytgdkobknjgbdbaa
set_option linter.unusedVariables false
set_option linter.unusedSimpArgs false
open Go.RowKit
set_option maxRecDepth 100000

/-- a call's answer is laid at once where the document's flight lies -/
theorem After.next {w wr w5 : World} {g b7 room lost lost' : Nat} {v : Value} {rs ws : List Ml} {A : Option Addr} {n k : Nat} {g' : Nat} {v' : Value} {rs' ws' : List Ml} {A' : Option Addr} {n' c' : Nat}
    (S : St w wr g b7 room lost v rs ws A n k) (h : After wr.drew w.heap.size g v room w5 g' v' rs' lost' A' n' c' ws') :
    St w (((w5.setCell ⟨b7, 0, none⟩ (.slice A' n' c')).setCell ⟨b7, 1, none⟩ (.int .i64 room)).setCell ⟨b7, 2, none⟩ (.int .i64 lost')) g' b7 room lost' v' rs' ws' A' n' c' := by
  obtain ⟨h1, h2, h3, h4, h5⟩ := h
  have hb7 : Blk w5 b7 49 #[.slice A n k, .int .i64 room, .int .i64 lost] := Fr.blk (w := wr.drew) h4 S.box S.kp
  have hk : Kp g' v' b7 := h5 _ S.box.lt S.kp
  have f6 : Fr (fun b => b ≠ b7) w5 (((w5.setCell ⟨b7, 0, none⟩ (.slice A' n' c')).setCell ⟨b7, 1, none⟩ (.int .i64 room)).setCell ⟨b7, 2, none⟩ (.int .i64 lost')) := (((Fr.refl.put 0 _).put 1 _).put 2 _)
  have hz3 := ((hb7.set 0 (.slice A' n' c')).set 1 (.int .i64 room)).set 2 (.int .i64 lost')
  simp only [List.setIfInBounds_toArray, List.set_cons_zero, List.set_cons_succ] at hz3
  have hold := S.old
  have hb7n := S.bn
  have hs := S.base.size
  exact ⟨h1.box hb7 hk f6, h3.box hb7 f6, h2, hz3, hk, (S.base.trans (Fr.below (w := wr) (B := w.heap.size) ((Fr.drewN 1).trans h4) hs (fun b hb => hold b hb))).trans (f6.below (by have := h4.2.2.2.1; exact Nat.le_trans hs this) (fun b hb => by omega)), hb7n⟩

/-- the argument that lies in a box, and the list of it alone -/
theorem few_one (x : Ac) (W : World) (G : Nat) (hG : W.heap.size = G) : Calls Try.prog 17 #[.slice (some ⟨G, 0, none⟩) 1 1, .int .i64 1] (W.alloc (.cells (acA x) 45)) fun e w' => e = .returned (.bool (fewB [x] 1)) ∧ (W.alloc (.cells (acA x) 45)) = w' := by
  have hr := Rd.new W 45 (acL x)
  rw [hG] at hr
  exact few19_any [x] 1 1 rfl 1 (some ⟨G, 0, none⟩) (G + 1) (W.alloc (.cells (acA x) 45)) (by rw [show acC [x] = acL x by simp [acC]]; exact hr) (by omega)

set_option maxHeartbeats 4000000 in
theorem flightall_no (l : List Ac) (N K : Nat) (hN : l.length = N) (B : Option Addr) (many : Int) (x : Ac) (w : World) (hl : Rd w w.heap.size B (acC l)) (hNK : N ≤ K ∧ K ≤ 9223372036854775807) (h : fewB l 30 = false ∨ fewB [x] 1 = false) :
    Calls Try.prog 4 #[.slice B N K, .int .i64 many, .agg (acA x)] w fun e w' => e = .returned (.bool true) ∧ Below w.heap.size w w' := by
  have HFW := Lib.hid (few19_any l N K hN 30 B w.heap.size _ (hl.alloc (Nat.le_refl _) (.cells (acA x) 45)) hNK)
  have HFX := Lib.hid (few_one x)
  have hX := Blk.new w 45 (acA x)
  have HB := Lib.hid (show Below w.heap.size w (w.alloc (.cells (acA x) 45)) from balloc (Below.refl _ _) _)
  have HB2 := Lib.hid (show Below w.heap.size w ((w.alloc (.cells (acA x) 45)).alloc (.cells (acA x) 45)) from balloc (balloc (Below.refl _ _) _) _)
  clear hl
  simp only [acA] at *
  have kx0 := (hX).cell 0
  have kx1 := (hX).cell 1
  have kx2 := (hX).cell 2
  have kx3 := (hX).cell 3
  have kx4 := (hX).cell 4
  have kx5 := (hX).cell 5
  have kx6 := (hX).cell 6
  have kx7 := (hX).cell 7
  have kx8 := (hX).cell 8
  have kx9 := (hX).cell 9
  simp only [List.getElem?_toArray, List.getElem?_cons_zero, List.getElem?_cons_succ] at kx0 kx1 kx2 kx3 kx4 kx5 kx6 kx7 kx8 kx9
  clear hX
  cases hq : fewB l 30
  case false =>
    rw [hq] at HFW
    clear hq h
    go_enter Try.func4, Try.ntmps4
    go_wp2_with fail
    refine HFW.out.mono ?_
    rintro e w1 ⟨rfl, rfl⟩
    go_wp2_with fail
    refine (works19_any _).mono ?_
    rintro e w2 ⟨rfl, b2⟩
    go_wp2_with fail
    go_ret
    exact ⟨rfl, bnext HB.out b2⟩
  case true =>
    rw [hq] at HFW
    have hx : fewB [x] 1 = false := by simpa [hq] using h
    rw [hx] at HFX
    clear hq h hx
    go_enter Try.func4, Try.ntmps4
    go_wp2_with fail
    refine HFW.out.mono ?_
    rintro e w1 ⟨rfl, rfl⟩
    go_wp2_with fail
    refine (HFX.out _ (w.heap.size + 1) (by simp)).mono ?_
    rintro e w2 ⟨rfl, rfl⟩
    go_wp2_with fail
    refine (works19_any _).mono ?_
    rintro e w3 ⟨rfl, b3⟩
    go_wp2_with fail
    go_ret
    exact ⟨rfl, bnext HB2.out b3⟩

set_option maxHeartbeats 20000000 in
theorem flightall_yes (l : List Ac) (N K : Nat) (hN : l.length = N) (B : Option Addr) (many : Int) (x0 : Ac) (w : World) (hl : Rd w w.heap.size B (acC l)) (hNK : N ≤ K ∧ K ≤ 9223372036854775807) (hfew : fewB l 30 = true) (hfew2 : fewB [x0] 1 = true) (hml : ∀ x ∈ l, (x.ml.m.bs.length ≤ x.ml.c ∧ x.ml.c ≤ maxLen ∧ Rd w w.heap.size x.ml.A (x.ml.m.bs.map b8)) ∧ x.nw ≤ 9223372036854775807)
    (hx0 : (x0.ml.m.bs.length ≤ x0.ml.c ∧ x0.ml.c ≤ maxLen ∧ Rd w w.heap.size x0.ml.A (x0.ml.m.bs.map b8)) ∧ x0.nw ≤ 9223372036854775807) :
    Calls Try.prog 4 #[.slice B N K, .int .i64 many, .agg (acA x0)] w fun e w' => e = .returned (.bool true) ∧ Below w.heap.size w w' := by
  have hb1 : Below w.heap.size w (w.alloc (.cells (acA x0) 45)) := balloc (Below.refl _ _) _
  have HFW := Lib.hid (few19_any l N K hN 30 B w.heap.size _ (hl.alloc (Nat.le_refl _) (.cells (acA x0) 45)) hNK)
  have HFX := Lib.hid (few_one x0)
  rw [hfew] at HFW
  rw [hfew2] at HFX
  have hfp := (few_parts hfew).2
  have hfx := (few_parts hfew2).2 x0 (by simp)
  have hN50 : N ≤ 30 := by have := (few_parts hfew).1; omega
  have HX := Lib.hid (Blk.new w 45 (acA x0))
  have HB1 := Lib.hid hb1
  have hs1 : (w.alloc (.cells (acA x0) 45)).heap.size = w.heap.size + 1 := by simp
  have HL := Lib.hid ((hl.below hb1).more hb1.size)
  have HN := Lib.hid hN
  have HM := Lib.hid (fun (x : Ac) (hx : x ∈ l) => show ((x.ml.m.bs.length ≤ x.ml.c ∧ x.ml.c ≤ maxLen ∧ Rd (w.alloc (.cells (acA x0) 45)) (w.alloc (.cells (acA x0) 45)).heap.size x.ml.A (x.ml.m.bs.map b8)) ∧ x.nw ≤ 9223372036854775807) ∧ x.ml.m.bs.length ≤ 60 from ⟨⟨⟨(hml x hx).1.1, (hml x hx).1.2.1, ((hml x hx).1.2.2.below hb1).more hb1.size⟩, (hml x hx).2⟩, hfp x hx⟩)
  have HM0 := Lib.hid (show ((x0.ml.m.bs.length ≤ x0.ml.c ∧ x0.ml.c ≤ maxLen ∧ Rd (w.alloc (.cells (acA x0) 45)) (w.alloc (.cells (acA x0) 45)).heap.size x0.ml.A (x0.ml.m.bs.map b8)) ∧ x0.nw ≤ 9223372036854775807) ∧ x0.ml.m.bs.length ≤ 60 from ⟨⟨⟨hx0.1.1, hx0.1.2.1, (hx0.1.2.2.below hb1).more hb1.size⟩, hx0.2⟩, hfx⟩)
  have HNEW := Lib.hid (new_ok 20 (w.heap.size + 1) ((w.alloc (.cells (acA x0) 45)).alloc (.cells (acA x0) 45)) (by omega) (by simp))
  have HRN := Lib.hid (fun W => refnew_ok 20 W (by omega) (by omega))
  have HB2 := Lib.hid (show Below (w.alloc (.cells (acA x0) 45)).heap.size (w.alloc (.cells (acA x0) 45)) ((w.alloc (.cells (acA x0) 45)).alloc (.cells (acA x0) 45)) from balloc (Below.refl _ _) _)
  clear hl hml hfp hfew hfew2 hN hx0 hfx hb1
  simp only [acA] at *
  have kx0 := (HX.out).cell 0
  have kx1 := (HX.out).cell 1
  have kx2 := (HX.out).cell 2
  have kx3 := (HX.out).cell 3
  have kx4 := (HX.out).cell 4
  have kx5 := (HX.out).cell 5
  have kx6 := (HX.out).cell 6
  have kx7 := (HX.out).cell 7
  have kx8 := (HX.out).cell 8
  have kx9 := (HX.out).cell 9
  simp only [List.getElem?_toArray, List.getElem?_cons_zero, List.getElem?_cons_succ] at kx0 kx1 kx2 kx3 kx4 kx5 kx6 kx7 kx8 kx9
  go_enter Try.func4, Try.ntmps4
  go_wp2_with fail
  refine HFW.out.mono ?_
  rintro e w1 ⟨rfl, rfl⟩
  go_wp2_with fail
  refine (HFX.out _ (w.heap.size + 1) (by simp)).mono ?_
  rintro e w2 ⟨rfl, rfl⟩
  go_wp2_with fail
  refine HNEW.out.mono ?_
  rintro e w2 ⟨g, rfl, hF, hg, b2⟩
  have HSZ := Lib.hid hs1
  have HFN := Lib.hid (show Fl w2 (w.alloc (.cells #[.int .i64 x0.wh, .int .i64 x0.pk, .int .i64 x0.ml.m.link, .int .i64 x0.ml.m.frm, .int .i64 x0.ml.m.dst, .int .u32 x0.ml.m.src, .slice x0.ml.A x0.ml.m.bs.length x0.ml.c, .int .i64 x0.ml.m.sent, .int .i64 x0.nw, .int .i64 x0.dl] 45)).heap.size g (.slice none 0 0) [] 20 0 by rw [hs1]; exact hF)
  have HB3 := Lib.hid (bnext HB2.out b2)
  clear kx0 kx1 kx2 kx3 kx4 kx5 kx6 kx7 kx8 kx9
  clear hF hg b2 hs1 HNEW HFX HFW HB2
  have HIB := Lib.hid (And.intro HX.out HB1.out)
  clear HX HB1
  have hwb : w.heap.size < (w.alloc (.cells #[.int .i64 x0.wh, .int .i64 x0.pk, .int .i64 x0.ml.m.link, .int .i64 x0.ml.m.frm, .int .i64 x0.ml.m.dst, .int .u32 x0.ml.m.src, .slice x0.ml.A x0.ml.m.bs.length x0.ml.c, .int .i64 x0.ml.m.sent, .int .i64 x0.nw, .int .i64 x0.dl] 45)).heap.size := by simp
  obtain ⟨w1, hw1⟩ : ∃ w1, w1 = w.alloc (.cells #[.int .i64 x0.wh, .int .i64 x0.pk, .int .i64 x0.ml.m.link, .int .i64 x0.ml.m.frm, .int .i64 x0.ml.m.dst, .int .u32 x0.ml.m.src, .slice x0.ml.A x0.ml.m.bs.length x0.ml.c, .int .i64 x0.ml.m.sent, .int .i64 x0.nw, .int .i64 x0.dl] 45) := ⟨_, rfl⟩
  rw [← hw1] at HFN HB3 HIB HL HM HM0 hwb
  clear hw1 HSZ
  go_wp2_with fail
  refine (HRN.out _).mono ?_
  rintro e w3 ⟨rfl, b3⟩
  have HF3 := Lib.hid (HFN.out.below b3)
  have hB3 := bnext HB3.out b3
  clear b3 HFN HB3 HRN
  go_wp2_with (go_at_call 10; refine (num19_any _ _).mono ?_; rintro e w' ⟨rfl, rfl⟩)
  have hS : St w1 (w3.alloc (.cells #[.slice none 0 0, .int .i64 20, .int .i64 0] 49)) g w3.heap.size 20 0 (.slice none 0 0) [] [] none 0 0 := by
    have hb : Below w3.heap.size w3 (w3.alloc (.cells #[.slice none 0 0, .int .i64 20, .int .i64 0] 49)) := balloc (Below.refl _ _) _
    exact ⟨HF3.out.below hb, ⟨rfl, Nat.le_refl _, by omega, fun h => absurd h (by simp [mlC]), by simp⟩, rfl, Blk.new _ _ _, ⟨by have := HF3.out.blk.lt; omega, by simp [Value.ownBlock]⟩, balloc hB3 _, hB3.size⟩
  generalize w3.heap.size = b7 at *
  generalize w3.alloc (.cells #[.slice none 0 0, .int .i64 20, .int .i64 0] 49) = w4 at *
  clear HF3 hB3
  obtain ⟨room, hroom⟩ : ∃ room : Nat, room = 20 := ⟨_, rfl⟩
  rw [← hroom] at hS
  clear hroom
  go_loopw [7, 11, 12] (fun f fi i wr => ∃ (c g lost : Nat) (v : Value) (rs ws : List Ml) (A : Option Addr) (n k : Nat), c ≤ N ∧ f = .pointer (some ⟨g, 0, none⟩) ∧ fi = .bool true ∧ i = .int .i64 c ∧ St w1 wr g b7 room lost v rs ws A n k) (fun _ _ i _ => N - (intOf i).toNat)
  case atStart => exact ⟨0, g, 0, _, [], [], none, 0, 0, by omega, rfl, rfl, rfl, hS⟩
  case round =>
    clear hS
    obtain ⟨c, g, lost, v, rs, ws, A, n, k, hc, rfl, rfl, rfl, S⟩ := hrel
    by_cases hlt : c < N
    case neg =>
      obtain rfl : c = N := by omega
      have HAL := Lib.hid (all_any S.fl)
      have HS := Lib.hid S
      obtain ⟨⟨⟨q1, q2, q3⟩, q4⟩, q5⟩ := HM0.out
      have HACT := Lib.hid (fun W (hb : Below wr.heap.size wr W) => ((S.below hb).act x0 q4 q3 q5 ⟨q1, q2⟩).mono fun _ _ h => h.after)
      simp only [acA] at HACT
      clear S q1 q2 q3 q4 q5
      go_wp2_with fail
      refine HAL.out.mono ?_
      rintro e w5 ⟨lb, rfl, hA, b5⟩
      have HA := Lib.hid hA
      have HS5 := Lib.hid (HS.out.below b5)
      have HB5 := Lib.hid b5
      clear hA b5 HAL
      obtain ⟨d0, d1, d2⟩ := HS5.out.box.three
      have hx5 := HIB.out.1.below HS5.out.base hwb
      have kx0 := (hx5).cell 0
      have kx1 := (hx5).cell 1
      have kx2 := (hx5).cell 2
      have kx3 := (hx5).cell 3
      have kx4 := (hx5).cell 4
      have kx5 := (hx5).cell 5
      have kx6 := (hx5).cell 6
      have kx7 := (hx5).cell 7
      have kx8 := (hx5).cell 8
      have kx9 := (hx5).cell 9
      simp only [List.getElem?_toArray, List.getElem?_cons_zero, List.getElem?_cons_succ] at kx0 kx1 kx2 kx3 kx4 kx5 kx6 kx7 kx8 kx9
      go_wp2_with fail
      refine (HACT.out _ HB5.out).mono ?_
      rintro e w6 ⟨g', v', rs', lost', A', n', c', ws', rfl, h5⟩
      have f6 := h5.2.2.2.1
      have HX6 := Lib.hid (f6.blk HS5.out.box HS5.out.kp)
      have HW6 := Lib.hid (HS5.out.want.fr f6 (fun _ h _ => h) (fun _ h _ => h))
      have HA6 := Lib.hid (HA.out.fr f6 (fun _ h _ => h) (fun _ h _ => h))
      have HMS := Lib.hid HS5.out.ms
      have HB6 := Lib.hid (HS5.out.base.trans (HS5.out.fl.base f6 |>.below HS5.out.base.size (fun b hb => hb)))
      clear kx0 kx1 kx2 kx3 kx4 kx5 kx6 kx7 kx8 kx9
      clear hx5 d0 d1 d2 h5 f6 HA HS5 HACT HS
      have HRW := Lib.hid (fun W many (hb : Below w6.heap.size w6 W) => rows_any rs ws HMS.out many lb n k HW6.out.1 A W (HA6.out.fr (r := fun _ => True) (Fr.of_below hb) (fun _ _ _ => trivial) (fun b _ hl => Nat.lt_of_lt_of_le hl hb.size)) ((HW6.out.rd.below hb).more hb.size) (fun r hr => ((HW6.out.2.2.2.2 r hr).rd.below hb).more hb.size) HW6.out.2.1 HW6.out.2.2.1)
      have d0 := HX6.out.cell 0
      simp only [List.getElem?_toArray, List.getElem?_cons_zero] at d0
      go_wp2_with fail
      refine (HRW.out _ _ (Below.refl _ _)).mono ?_
      rintro e w7 ⟨rfl, b7'⟩
      clear d0
      have d0 := (HX6.out.below b7' HX6.out.lt).cell 0
      simp only [List.getElem?_toArray, List.getElem?_cons_zero] at d0
      go_wp2_with fail
      refine (HRW.out _ _ b7').mono ?_
      rintro e w8 ⟨rfl, b8'⟩
      go_wp2_with fail
      refine (works19_any _).mono ?_
      rintro e w9 ⟨rfl, b9⟩
      go_wp2_with fail
      go_ret
      exact ⟨rfl, bnext HIB.out.2 (bnext HB6.out (bnext (bnext b7' b8') b9) )⟩
    case pos =>
      have hcl : c < l.length := by have := HN.out; omega
      obtain ⟨x, hx⟩ : ∃ x, l[c]? = some x := ⟨_, List.getElem?_eq_getElem hcl⟩
      obtain ⟨bl, off, rfl, hbl, hcell⟩ := ac_all HL.out hx
      obtain ⟨⟨⟨e1, e2, e3⟩, e4⟩, e5⟩ := HM.out x (List.mem_of_getElem? hx)
      have HACT := Lib.hid (fun W (hb : Below wr.heap.size wr W) => ((S.below hb).act x e4 e3 e5 ⟨e1, e2⟩).mono fun _ _ h => h.after)
      have hi1 : (c : Int) < (N : Int) := by omega
      have hkeep : ∀ W, Fr (Kp g v) wr W → (C3 b7 (.slice A n k) (.int .i64 room) (.int .i64 lost) W ∧ W.cell? ⟨bl, off + c * 10, none⟩ = some (.int .i64 x.wh) ∧ W.cell? ⟨bl, off + c * 10 + 1, none⟩ = some (.int .i64 x.pk) ∧ W.cell? ⟨bl, off + c * 10 + 2, none⟩ = some (.int .i64 x.ml.m.link) ∧ W.cell? ⟨bl, off + c * 10 + 3, none⟩ = some (.int .i64 x.ml.m.frm) ∧ W.cell? ⟨bl, off + c * 10 + 4, none⟩ = some (.int .i64 x.ml.m.dst) ∧ W.cell? ⟨bl, off + c * 10 + 5, none⟩ = some (.int .u32 x.ml.m.src) ∧ W.cell? ⟨bl, off + c * 10 + 6, none⟩ = some (.slice x.ml.A x.ml.m.bs.length x.ml.c) ∧ W.cell? ⟨bl, off + c * 10 + 7, none⟩ = some (.int .i64 x.ml.m.sent) ∧ W.cell? ⟨bl, off + c * 10 + 8, none⟩ = some (.int .i64 x.nw) ∧ W.cell? ⟨bl, off + c * 10 + 9, none⟩ = some (.int .i64 x.dl)) := fun W hW => by
        have hb := hW.blk S.box S.kp
        have hc : ∀ j u, (acL x)[j]? = some u → W.cell? ⟨bl, off + c * 10 + j, none⟩ = some u := fun j u hu => hW.cell ((S.base.cell (p := ⟨bl, off + c * 10 + j, none⟩) hbl).trans (hcell j u hu)) (S.old _ hbl)
        exact ⟨hb.three, hc 0 _ rfl, hc 1 _ rfl, hc 2 _ rfl, hc 3 _ rfl, hc 4 _ rfl, hc 5 _ rfl, hc 6 _ rfl, hc 7 _ rfl, hc 8 _ rfl, hc 9 _ rfl⟩
      have HKP := Lib.hid hkeep
      have hSd : Fr (Kp g v) wr wr.drew := Fr.drewN 1
      have hBd : Below wr.heap.size wr wr.drew := below_drewN (Below.refl _ _) 1
      have HS := Lib.hid S
      have hz := S.box
      obtain ⟨z0, z1, z2⟩ := hz.three
      have hb7l : w1.heap.size ≤ b7 := S.bn
      have Q7 := Lib.hid (show b7 ≠ bl by omega)
      have hc0 := HKP.out wr Fr.refl
      clear S hkeep hcell e1 e2 e3 e4 e5 hcl hx hz
      simp only [acA] at HACT
      go_upto_region 9 with fail
      obtain ⟨⟨d0, d1, d2⟩, x0', x1', x2', x3', x4', x5', x6', x7', x8', x9'⟩ := hc0
      go_region_law
        (first
        | (go_simp; go_at_call 19; refine (HACT.out wr.drew hBd).mono ?_; rintro e w5 ⟨g', v', rs', lost', A', n', c', ws', rfl, h5⟩; have hz5 := Fr.blk (w := wr.drew) h5.2.2.2.1 HS.out.box HS.out.kp; obtain ⟨q0, q1, q2⟩ := hz5.three; obtain ⟨y0, y1, y2⟩ := hz5.ice3))
      all_goals
        have HS2 := Lib.hid (After.next HS.out h5)
        clear h5 hz5 q0 q1 q2 y0 y1 y2 d0 d1 d2 z0 z1 z2 x0' x1' x2' x3' x4' x5' x6' x7' x8' x9' hSd hBd HACT HKP HS
        generalize ((w5.setCell ⟨b7, 0, none⟩ (.slice A' n' c')).setCell ⟨b7, 1, none⟩ (.int .i64 room)).setCell ⟨b7, 2, none⟩ (.int .i64 lost') = wn at *
        go_wp2_with fail
        go_roundw
        case rel => exact ⟨c + 1, g', lost', v', rs', ws', A', n', c', by omega, rfl, rfl, by go_num, HS2.out⟩
        case measure => simp [intOf]; omega
theorem flightall_walk (l : List Ac) (N K : Nat) (hN : l.length = N) (B : Option Addr) (many : Int) (x0 : Ac) (w : World) (hl : Rd w w.heap.size B (acC l)) (hNK : N ≤ K ∧ K ≤ 9223372036854775807) (hml : ∀ x ∈ l, (x.ml.m.bs.length ≤ x.ml.c ∧ x.ml.c ≤ maxLen ∧ Rd w w.heap.size x.ml.A (x.ml.m.bs.map b8)) ∧ x.nw ≤ 9223372036854775807)
    (hx0 : (x0.ml.m.bs.length ≤ x0.ml.c ∧ x0.ml.c ≤ maxLen ∧ Rd w w.heap.size x0.ml.A (x0.ml.m.bs.map b8)) ∧ x0.nw ≤ 9223372036854775807) :
    Calls Try.prog 4 #[.slice B N K, .int .i64 many, .agg (acA x0)] w fun e w' => e = .returned (.bool true) ∧ Below w.heap.size w w' := by
  cases hq : fewB l 30
  · exact flightall_no l N K hN B many x0 w hl hNK (.inl hq)
  · cases hx : fewB [x0] 1
    · exact flightall_no l N K hN B many x0 w hl hNK (.inr hx)
    · exact flightall_yes l N K hN B many x0 w hl hNK hq hx hml hx0
end Go.Proofs.Ytgdkobknjgbdbaa
