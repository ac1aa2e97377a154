/- FlightCopies: the walk. -/
import Derived.Test.YtgdkobknjgbdbaaFlAl
import Derived.Test.YtgdkobknjgbdbaaFlSn
namespace Go.Proofs.Ytgdkobknjgbdbaa
set_option linter.unusedVariables false
set_option linter.unusedSimpArgs false
open Go.RowKit
set_option maxRecDepth 100000

theorem rdp_and {w : World} {p q : Nat → Prop} {A : Option Addr} {xs : List Value} (h : RdP w p A xs) (h2 : RdP w q A xs) : RdP w (fun b => p b ∧ q b) A xs := fun h0 => by
  obtain ⟨b, off, e, hp, hc⟩ := h h0
  obtain ⟨b', off', e', hq, _⟩ := h2 h0
  rw [e] at e'
  injection e' with e'
  injection e' with e1 e2
  subst e1
  exact ⟨b, off, e, ⟨hp, hq⟩, hc⟩
/-- a flight stays through a call on another one -/
theorem Fl.keep {W W' : World} {n0 gc room lost : Nat} {vc : Value} {rs : List Ml} {p : Nat → Prop} (hC : Fl W n0 gc vc rs room lost) (hm : ∀ r ∈ rs, RdP W p r.A (r.m.bs.map b8)) (hg : p gc) (hv : ∀ b, vc.ownBlock = some b → p b) (f : Fr p W W') : Fl W' n0 gc vc rs room lost :=
  ⟨f.blk hC.blk hg, hC.ge, own_keep hC.own (Nat.le_refl _) (fun q hq hl => f.2.2.2.2 q (hv q hq) hl), hC.apart, hC.room0, hC.len, hC.lost0, fun r hr => ⟨(rdp_and (hC.mails r hr).1 (hm r hr)).fr f (fun b hb _ => hb.2) (fun b hb _ => hb.1), (hC.mails r hr).2⟩, hC.ok⟩
/-- what is apart from a flight and from its copy -/
def Both (g : Nat) (v : Value) (gc : Nat) (vc : Value) (b : Nat) : Prop := Kp g v b ∧ Kp gc vc b
/-- a call on the flight, its copy beside it -/
theorem copy_act1 {w wr W : World} {g b7 gc room lost : Nat} {v vc : Value} {rs ws : List Ml} {A : Option Addr} {n k : Nat} (S : St w wr g b7 room lost v rs ws A n k) (b5 : Below wr.heap.size wr W) (hC : Fl W w.heap.size gc vc rs room lost) (hgc : wr.heap.size ≤ gc) (hvc : ∀ q, vc.ownBlock = some q → wr.heap.size ≤ q)
    (x : Ac) (hnow : x.nw ≤ 9223372036854775807) (hxr : Rd w w.heap.size x.ml.A (x.ml.m.bs.map b8)) (hxl : x.ml.m.bs.length ≤ 60) (hxc : x.ml.m.bs.length ≤ x.ml.c ∧ x.ml.c ≤ maxLen) :
    Calls Try.prog 19 #[.pointer (some ⟨g, 0, none⟩), .agg #[.slice A n k, .int .i64 room, .int .i64 lost], .agg (acA x)] W fun e W' => ∃ g' v' rs' lost' A' n' c' ws', e = .returned (.tuple #[.pointer (some ⟨g', 0, none⟩), .agg #[.slice A' n' c', .int .i64 (room : Nat), .int .i64 (lost' : Nat)], .bool true]) ∧
      Fl W' w.heap.size g' v' rs' room lost' ∧ msL rs' = msL ws' ∧ Want W' (Kp gc vc) A' n' c' ws' ∧ Fl W' w.heap.size gc vc rs room lost ∧ Want W' (Kp gc vc) A n k ws ∧ Kp gc vc g' ∧ (∀ b, v'.ownBlock = some b → Kp gc vc b) ∧ (∀ r ∈ rs', RdP W' (Kp gc vc) r.A (r.m.bs.map b8)) ∧ Fr (Kp g v) W W' := by
  have s5 := b5.size
  have S5 := S.below b5
  have hold : ∀ b, b < wr.heap.size → Kp gc vc b := fun b hb => ⟨by omega, fun e => by have := hvc b e; omega⟩
  have hKg : Kp g v gc := S.new gc hgc
  have hKv : ∀ b, vc.ownBlock = some b → Kp g v b := fun b e => S.new b (hvc b e)
  have hWb : Want W (Both g v gc vc) A n k ws := S.want.fr (s := fun _ => True) (Fr.of_below b5) (fun _ _ _ => trivial) (fun b hb hl => ⟨hb, hold b hl⟩)
  have hMb : ∀ r ∈ rs, RdP W (Both g v gc vc) r.A (r.m.bs.map b8) := fun r hr => (S.fl.mails r hr).1.fr (r := fun _ => True) (Fr.of_below b5) (fun _ _ _ => trivial) (fun b hb hl => ⟨hb, hold b hl⟩)
  have hxp : RdP W (Both g v gc vc) x.ml.A (x.ml.m.bs.map b8) := (hxr.below (bnext S.base b5)).toP (fun b hb => ⟨S.old b hb, hold b (by have := S.base.size; omega)⟩)
  refine (act_any x hnow hxp hxl hxc S5.fl S5.base.size S5.ms hWb (fun b h => h.1)).mono ?_
  rintro e W' ⟨g', v', rs', lost', A', n', c', ws', he, h1, h2, h3, h4, h5, h6⟩
  have s6 := h4.2.2.2.1
  have gl := hC.blk.lt
  have vl := hC.row_lt
  have hnew : ∀ b, W.heap.size ≤ b → Kp gc vc b := fun b hb => ⟨by omega, fun e => by have := vl b e; omega⟩
  have hk1 := h5 gc gl hKg
  refine ⟨g', v', rs', lost', A', n', c', ws', he, h1, h2, h3.mono (fun b hb _ => hb.elim (fun h => h.1.2) (fun h => hnew b h.1)), hC.keep (fun r hr => (S5.fl.mails r hr).1) hKg hKv h4, hWb.fr h4 (fun b hb _ => hb.1) (fun b hb _ => hb.2), ⟨fun e => hk1.1 e.symm, fun e => (h5 g' (vl g' e) (hKv g' e)).1 rfl⟩, fun b hb => ⟨fun e => hk1.2 (by rw [← e]; exact hb), fun e => (h5 b (vl b e) (hKv b e)).2 hb⟩, fun r hr => ?_, h4⟩
  rcases h6 r hr with h | h
  · exact (hMb r h).fr h4 (fun b hb _ => hb.1) (fun b hb _ => hb.2)
  · exact ((h1.mails r hr).1.from h).fr (r := fun _ => True) Fr.refl (fun _ _ _ => trivial) (fun b hb _ => hnew b hb.2)

theorem few_two (x y : Ac) (w : World) : Calls Try.prog 17 #[.slice (some ⟨w.heap.size, 0, none⟩) 2 2, .int .i64 2] (w.alloc (.cells (acL x ++ acL y).toArray 63)) fun e w' => e = .returned (.bool (fewB [x, y] 2)) ∧ (w.alloc (.cells (acL x ++ acL y).toArray 63)) = w' :=
  few19_any [x, y] 2 2 rfl 2 (some ⟨w.heap.size, 0, none⟩) (w.heap.size + 1) (w.alloc (.cells (acL x ++ acL y).toArray 63)) (by rw [show acC [x, y] = acL x ++ acL y by simp [acC]]; exact Rd.new w 63 (acL x ++ acL y)) (by omega)

set_option maxHeartbeats 4000000 in
theorem flightcopies_no (room : Int) (l : List Ac) (N K : Nat) (hN : l.length = N) (B : Option Addr) (x y : Ac) (w : World) (hl : Rd w w.heap.size B (acC l)) (hNK : N ≤ K ∧ K ≤ 9223372036854775807) (h : fewB l 30 = false ∨ fewB [x, y] 2 = false ∨ ¬ (1 ≤ room ∧ room ≤ 512)) :
    Calls Try.prog 7 #[.int .i64 room, .slice B N K, .agg (acL x ++ acL y).toArray] w fun e w' => e = .returned (.bool true) ∧ Below w.heap.size w w' := by
  have HFW := Lib.hid (few19_any l N K hN 30 B w.heap.size _ (hl.alloc (Nat.le_refl _) (.cells (acL x ++ acL y).toArray 63)) hNK)
  have HFX := Lib.hid (few_two x y w)
  have HB := Lib.hid (show Below w.heap.size w (w.alloc (.cells (acL x ++ acL y).toArray 63)) from balloc (Below.refl _ _) _)
  clear hl
  simp only [acL, List.cons_append, List.nil_append] at *
  cases hq : fewB l 30
  case false =>
    rw [hq] at HFW
    clear hq h
    go_enter Try.func7, Try.ntmps7
    go_wp2_with fail
    refine HFW.out.mono ?_
    rintro e w1 ⟨rfl, rfl⟩
    go_wp2_with fail
    refine (works19_any _).mono ?_
    rintro e w2 ⟨rfl, b2⟩
    go_wp2_with fail
    go_ret
    exact ⟨rfl, bnext HB.out b2⟩
  case true =>
    rw [hq] at HFW
    cases hx : fewB [x, y] 2
    case false =>
      rw [hx] at HFX
      clear hq h hx
      go_enter Try.func7, Try.ntmps7
      go_wp2_with fail
      refine HFW.out.mono ?_
      rintro e w1 ⟨rfl, rfl⟩
      go_wp2_with fail
      refine HFX.out.mono ?_
      rintro e w2 ⟨rfl, rfl⟩
      go_wp2_with fail
      refine (works19_any _).mono ?_
      rintro e w3 ⟨rfl, b3⟩
      go_wp2_with fail
      go_ret
      exact ⟨rfl, bnext HB.out b3⟩
    case true =>
      rw [hx] at HFX
      have hr : ¬ (1 ≤ room ∧ room ≤ 512) := by simpa [hq, hx] using h
      have HR := Lib.hid hr
      clear hq h hx hr
      go_enter Try.func7, Try.ntmps7
      go_wp2_with fail
      refine HFW.out.mono ?_
      rintro e w1 ⟨rfl, rfl⟩
      go_wp2_with fail
      refine HFX.out.mono ?_
      rintro e w2 ⟨rfl, rfl⟩
      go_wp2_with fail
      refine (new_no room _ HR.out).mono ?_
      rintro e w2 ⟨rfl, b2⟩
      go_wp2_with fail
      refine (refnew_no room _ HR.out).mono ?_
      rintro e w3 ⟨rfl, b3⟩
      have b4 := bnext HB.out (balloc (bnext b2 b3) (.cells #[.slice none 0 0, .int .i64 0, .int .i64 0] 49))
      go_wp2_with (go_at_call 10; refine (num19_any _ _).mono ?_; rintro e w' ⟨rfl, rfl⟩)
      refine (works19_any _).mono ?_
      rintro e w5 ⟨rfl, b5⟩
      go_wp2_with fail
      go_ret
      exact ⟨rfl, bnext b4 b5⟩

set_option maxHeartbeats 40000000 in
theorem flightcopies_yes (room : Nat) (l : List Ac) (N K : Nat) (hN : l.length = N) (B : Option Addr) (x0 y0 : Ac) (w : World) (hl : Rd w w.heap.size B (acC l)) (hNK : N ≤ K ∧ K ≤ 9223372036854775807) (hfew : fewB l 30 = true) (hfew2 : fewB [x0, y0] 2 = true) (hr1 : 1 ≤ room ∧ room ≤ 512) (hml : ∀ x ∈ l, (x.ml.m.bs.length ≤ x.ml.c ∧ x.ml.c ≤ maxLen ∧ Rd w w.heap.size x.ml.A (x.ml.m.bs.map b8)) ∧ x.nw ≤ 9223372036854775807)
    (hx0 : ((x0.ml.m.bs.length ≤ x0.ml.c ∧ x0.ml.c ≤ maxLen ∧ Rd w w.heap.size x0.ml.A (x0.ml.m.bs.map b8)) ∧ x0.nw ≤ 9223372036854775807)) (hy0 : ((y0.ml.m.bs.length ≤ y0.ml.c ∧ y0.ml.c ≤ maxLen ∧ Rd w w.heap.size y0.ml.A (y0.ml.m.bs.map b8)) ∧ y0.nw ≤ 9223372036854775807)) :
    Calls Try.prog 7 #[.int .i64 room, .slice B N K, .agg (acL x0 ++ acL y0).toArray] w fun e w' => e = .returned (.bool true) ∧ Below w.heap.size w w' := by
  obtain ⟨hr1, hr2⟩ := hr1
  have hb1 : Below w.heap.size w (w.alloc (.cells (acL x0 ++ acL y0).toArray 63)) := balloc (Below.refl _ _) _
  have HFW := Lib.hid (few19_any l N K hN 30 B w.heap.size _ (hl.alloc (Nat.le_refl _) (.cells (acL x0 ++ acL y0).toArray 63)) hNK)
  have HFX := Lib.hid (few_two x0 y0 w)
  rw [hfew] at HFW
  rw [hfew2] at HFX
  have hfp := (few_parts hfew).2
  have hfx := (few_parts hfew2).2 x0 (by simp)
  have hfy := (few_parts hfew2).2 y0 (by simp)
  have hN50 : N ≤ 30 := by have := (few_parts hfew).1; omega
  have hwb : w.heap.size < (w.alloc (.cells (acL x0 ++ acL y0).toArray 63)).heap.size := by simp
  have HX := Blk.new w 63 (acL x0 ++ acL y0).toArray
  have HL := Lib.hid ((hl.below hb1).more hb1.size)
  have HN := Lib.hid hN
  have HM := Lib.hid (fun (x : Ac) (hx : x ∈ l) => show ((x.ml.m.bs.length ≤ x.ml.c ∧ x.ml.c ≤ maxLen ∧ Rd (w.alloc (.cells (acL x0 ++ acL y0).toArray 63)) (w.alloc (.cells (acL x0 ++ acL y0).toArray 63)).heap.size x.ml.A (x.ml.m.bs.map b8)) ∧ x.nw ≤ 9223372036854775807) ∧ x.ml.m.bs.length ≤ 60 from ⟨⟨⟨(hml x hx).1.1, (hml x hx).1.2.1, ((hml x hx).1.2.2.below hb1).more hb1.size⟩, (hml x hx).2⟩, hfp x hx⟩)
  have HM0 := Lib.hid (show ((x0.ml.m.bs.length ≤ x0.ml.c ∧ x0.ml.c ≤ maxLen ∧ Rd (w.alloc (.cells (acL x0 ++ acL y0).toArray 63)) (w.alloc (.cells (acL x0 ++ acL y0).toArray 63)).heap.size x0.ml.A (x0.ml.m.bs.map b8)) ∧ x0.nw ≤ 9223372036854775807) ∧ x0.ml.m.bs.length ≤ 60 from ⟨⟨⟨hx0.1.1, hx0.1.2.1, (hx0.1.2.2.below hb1).more hb1.size⟩, hx0.2⟩, hfx⟩)
  have HM1 := Lib.hid (show ((y0.ml.m.bs.length ≤ y0.ml.c ∧ y0.ml.c ≤ maxLen ∧ Rd (w.alloc (.cells (acL x0 ++ acL y0).toArray 63)) (w.alloc (.cells (acL x0 ++ acL y0).toArray 63)).heap.size y0.ml.A (y0.ml.m.bs.map b8)) ∧ y0.nw ≤ 9223372036854775807) ∧ y0.ml.m.bs.length ≤ 60 from ⟨⟨⟨hy0.1.1, hy0.1.2.1, (hy0.1.2.2.below hb1).more hb1.size⟩, hy0.2⟩, hfy⟩)
  have HNEW := Lib.hid (new_ok room (w.alloc (.cells (acL x0 ++ acL y0).toArray 63)).heap.size (w.alloc (.cells (acL x0 ++ acL y0).toArray 63)) (by omega) (Nat.le_refl _))
  have h1 : (1 : Int) ≤ room := by omega
  have h2 : (room : Int) ≤ 512 := by omega
  have HRN := Lib.hid (fun W => refnew_ok room W h1 h2)
  have HB1 := Lib.hid hb1
  have HXX := Lib.hid HX
  clear hl hml hfp hfew hfew2 hN hx0 hy0 hfx hfy hb1 h1 h2 HX
  simp only [acL, List.cons_append, List.nil_append] at *
  go_enter Try.func7, Try.ntmps7
  go_wp2_with fail
  refine HFW.out.mono ?_
  rintro e w1 ⟨rfl, rfl⟩
  go_wp2_with fail
  refine HFX.out.mono ?_
  rintro e w2 ⟨rfl, rfl⟩
  clear HFW HFX
  obtain ⟨w1, hw1⟩ : ∃ w1, w1 = w.alloc (.cells #[.int .i64 x0.wh, .int .i64 x0.pk, .int .i64 x0.ml.m.link, .int .i64 x0.ml.m.frm, .int .i64 x0.ml.m.dst, .int .u32 x0.ml.m.src, .slice x0.ml.A x0.ml.m.bs.length x0.ml.c, .int .i64 x0.ml.m.sent, .int .i64 x0.nw, .int .i64 x0.dl, .int .i64 y0.wh, .int .i64 y0.pk, .int .i64 y0.ml.m.link, .int .i64 y0.ml.m.frm, .int .i64 y0.ml.m.dst, .int .u32 y0.ml.m.src, .slice y0.ml.A y0.ml.m.bs.length y0.ml.c, .int .i64 y0.ml.m.sent, .int .i64 y0.nw, .int .i64 y0.dl] 63) := ⟨_, rfl⟩
  rw [← hw1] at HB1 HXX HL HM HM0 HM1 hwb HNEW ⊢
  clear hw1
  go_wp2_with fail
  refine HNEW.out.mono ?_
  rintro e w2 ⟨g, rfl, hF, hg, b2⟩
  go_wp2_with fail
  refine (HRN.out _).mono ?_
  rintro e w3 ⟨rfl, b3⟩
  have HF3 := Lib.hid (hF.below b3)
  have hB3 := bnext b2 b3
  clear hF b3 b2 HNEW HRN
  go_wp2_with (go_at_call 10; refine (num19_any _ _).mono ?_; rintro e w' ⟨rfl, rfl⟩)
  have hS : St w1 (w3.alloc (.cells #[.slice none 0 0, .int .i64 room, .int .i64 0] 49)) g w3.heap.size room 0 (.slice none 0 0) [] [] none 0 0 := by
    have hb : Below w3.heap.size w3 (w3.alloc (.cells #[.slice none 0 0, .int .i64 room, .int .i64 0] 49)) := balloc (Below.refl _ _) _
    exact ⟨HF3.out.below hb, ⟨rfl, Nat.le_refl _, by omega, fun h => absurd h (by simp [mlC]), by simp⟩, rfl, Blk.new _ _ _, ⟨by have := HF3.out.blk.lt; omega, by simp [Value.ownBlock]⟩, balloc hB3 _, hB3.size⟩
  generalize w3.heap.size = b7 at *
  generalize w3.alloc (.cells #[.slice none 0 0, .int .i64 room, .int .i64 0] 49) = w4 at *
  clear HF3 hB3
  go_loopw [7, 11, 12] (fun f fi i wr => ∃ (c g lost : Nat) (v : Value) (rs ws : List Ml) (A : Option Addr) (n k : Nat), c ≤ N ∧ f = .pointer (some ⟨g, 0, none⟩) ∧ fi = .bool true ∧ i = .int .i64 c ∧ St w1 wr g b7 room lost v rs ws A n k) (fun _ _ i _ => N - (intOf i).toNat)
  case atStart => exact ⟨0, g, 0, _, [], [], none, 0, 0, by omega, rfl, rfl, rfl, hS⟩
  case round =>
    clear hS hg
    obtain ⟨c, g, lost, v, rs, ws, A, n, k, hc, rfl, rfl, rfl, S⟩ := hrel
    by_cases hlt : c < N
    case neg =>
      obtain rfl : c = N := by omega
      have HCP := Lib.hid (copy_any S.fl S.base.size)
      have HS := Lib.hid S
      clear S
      go_wp2_with fail
      refine HCP.out.mono ?_
      rintro e w5 ⟨gc, vc, rfl, hFC, hgc, hvc, b5⟩
      obtain ⟨⟨⟨q1, q2, q3⟩, q4⟩, q5⟩ := HM0.out
      have HA1 := Lib.hid (copy_act1 HS.out b5 hFC hgc hvc x0 q4 q3 q5 ⟨q1, q2⟩)
      have HS5 := Lib.hid (HS.out.below b5)
      have HG := Lib.hid (And.intro hgc (And.intro hvc b5))
      simp only [acA] at HA1
      obtain ⟨d0, d1, d2⟩ := HS5.out.box.three
      have hx5 := HXX.out.below HS5.out.base hwb
      have kx0 := (hx5).cell 0
      have kx1 := (hx5).cell 1
      have kx2 := (hx5).cell 2
      have kx3 := (hx5).cell 3
      have kx4 := (hx5).cell 4
      have kx5 := (hx5).cell 5
      have kx6 := (hx5).cell 6
      have kx7 := (hx5).cell 7
      have kx8 := (hx5).cell 8
      have kx9 := (hx5).cell 9
      have kx10 := (hx5).cell 10
      have kx11 := (hx5).cell 11
      have kx12 := (hx5).cell 12
      have kx13 := (hx5).cell 13
      have kx14 := (hx5).cell 14
      have kx15 := (hx5).cell 15
      have kx16 := (hx5).cell 16
      have kx17 := (hx5).cell 17
      have kx18 := (hx5).cell 18
      have kx19 := (hx5).cell 19
      simp only [List.getElem?_toArray, List.getElem?_cons_zero, List.getElem?_cons_succ] at kx0 kx1 kx2 kx3 kx4 kx5 kx6 kx7 kx8 kx9 kx10 kx11 kx12 kx13 kx14 kx15 kx16 kx17 kx18 kx19
      clear q1 q2 q3 q4 q5 HCP hFC hgc hvc b5
      go_wp2_with fail
      refine HA1.out.mono ?_
      rintro e w6 ⟨g', v', rs', lost', A', n', c', ws', rfl, h1, h2, h3, h4, h5, h6, h7, h8, h9⟩
      have hB6 : Below w1.heap.size w1 w6 := HS5.out.base.trans ((HS5.out.fl.base h9).below HS5.out.base.size (fun b hb => hb))
      have hx6 := h9.blk hx5 (HS5.out.old _ hwb)
      have hz6 := h9.blk HS5.out.box HS5.out.kp
      clear kx0 kx1 kx2 kx3 kx4 kx5 kx6 kx7 kx8 kx9 kx10 kx11 kx12 kx13 kx14 kx15 kx16 kx17 kx18 kx19
      clear d0 d1 d2 hx5 HA1
      go_upto_region 14 with fail
      have hb6 : Below w6.heap.size w6 (w6.alloc (.cells #[.slice A' n' c', .int .i64 room, .int .i64 lost'] 49)) := balloc (Below.refl _ _) _
      have xo := Blk.new w6 49 #[.slice A' n' c', .int .i64 room, .int .i64 lost']
      have hx7 := hx6.alloc (.cells #[.slice A' n' c', .int .i64 room, .int .i64 lost'] 49)
      have hz7 := hz6.alloc (.cells #[.slice A' n' c', .int .i64 room, .int .i64 lost'] 49)
      have F1 := h1.below hb6
      have W1 := h3.fr (s := fun _ => True) (q := Kp gc vc) (Fr.of_below hb6) (fun _ _ _ => trivial) (fun _ h _ => h)
      have FC := h4.below hb6
      have WC := h5.fr (s := fun _ => True) (q := Kp gc vc) (Fr.of_below hb6) (fun _ _ _ => trivial) (fun _ h _ => h)
      have M1 : ∀ r ∈ rs', RdP (w6.alloc (.cells #[.slice A' n' c', .int .i64 room, .int .i64 lost'] 49)) (Kp gc vc) r.A (r.m.bs.map b8) := fun r hr => (h8 r hr).fr (r := fun _ => True) (Fr.of_below hb6) (fun _ _ _ => trivial) (fun _ h _ => h)
      have hB7 : Below w1.heap.size w1 (w6.alloc (.cells #[.slice A' n' c', .int .i64 room, .int .i64 lost'] 49)) := balloc hB6 _
      have hbo : w6.heap.size < (w6.alloc (.cells #[.slice A' n' c', .int .i64 room, .int .i64 lost'] 49)).heap.size := by simp
      have hK6 : Kp gc vc w6.heap.size := ⟨by have := h4.blk.lt; omega, fun e => by have := h4.row_lt _ e; omega⟩
      have HMS1 := Lib.hid h2
      have HK := Lib.hid (And.intro h6 h7)
      clear h1 h2 h3 h4 h5 h6 h7 h8 h9 hx6 hz6 hb6 hB6
      generalize w6.heap.size = bo at *
      generalize w6.alloc (.cells #[.slice A' n' c', .int .i64 room, .int .i64 lost'] 49) = w7 at *
      obtain ⟨⟨⟨q1, q2, q3⟩, q4⟩, q5⟩ := HM1.out
      have hyp : RdP w7 (Kp gc vc) y0.ml.A (y0.ml.m.bs.map b8) := (q3.below hB7).toP (fun b hb => ⟨by have := FC.ge; omega, fun e => by have := own_base' FC.own b e; omega⟩)
      have HA2 := Lib.hid (act_any y0 q4 hyp q5 ⟨q1, q2⟩ FC hB7.size HS.out.ms WC (fun _ h => h))
      simp only [acA] at HA2
      have H1 := Lib.hid (And.intro F1 (And.intro W1 (And.intro M1 (And.intro xo (And.intro hK6 (And.intro hB7 (And.intro FC hbo)))))))
      clear q1 q2 q3 q4 q5 hyp F1 W1 FC WC M1 xo hB7 hK6
      obtain ⟨d0, d1, d2⟩ := hz7.three
      have kx0 := (hx7).cell 0
      have kx1 := (hx7).cell 1
      have kx2 := (hx7).cell 2
      have kx3 := (hx7).cell 3
      have kx4 := (hx7).cell 4
      have kx5 := (hx7).cell 5
      have kx6 := (hx7).cell 6
      have kx7 := (hx7).cell 7
      have kx8 := (hx7).cell 8
      have kx9 := (hx7).cell 9
      have kx10 := (hx7).cell 10
      have kx11 := (hx7).cell 11
      have kx12 := (hx7).cell 12
      have kx13 := (hx7).cell 13
      have kx14 := (hx7).cell 14
      have kx15 := (hx7).cell 15
      have kx16 := (hx7).cell 16
      have kx17 := (hx7).cell 17
      have kx18 := (hx7).cell 18
      have kx19 := (hx7).cell 19
      simp only [List.getElem?_toArray, List.getElem?_cons_zero, List.getElem?_cons_succ] at kx0 kx1 kx2 kx3 kx4 kx5 kx6 kx7 kx8 kx9 kx10 kx11 kx12 kx13 kx14 kx15 kx16 kx17 kx18 kx19
      go_wp2_with fail
      refine HA2.out.mono ?_
      rintro e w8 ⟨g2, v2, rs2, lost2, A2, n2, c2, ws2, rfl, y1, y2, y3, y4, _, _⟩
      obtain ⟨F1, W1, M1, xo, hK6, hB7, FC, hbo'⟩ := H1.out
      have F1b := F1.keep M1 HK.out.1 HK.out.2 y4
      have W1b := W1.fr y4 (q := Kp gc vc) (fun _ h _ => h) (fun _ h _ => h)
      have xob := y4.blk xo hK6
      have hB8 : Below w1.heap.size w1 w8 := hB7.trans ((FC.base y4).below hB7.size (fun b hb => hb))
      clear kx0 kx1 kx2 kx3 kx4 kx5 kx6 kx7 kx8 kx9 kx10 kx11 kx12 kx13 kx14 kx15 kx16 kx17 kx18 kx19
      clear d0 d1 d2 hx7 hz7 HA2 H1 F1 W1 M1 xo hK6 hB7 FC hbo' y4
      go_upto_region 15 with fail
      have hb8 : Below w8.heap.size w8 (w8.alloc (.cells #[.slice A2 n2 c2, .int .i64 room, .int .i64 lost2] 49)) := balloc (Below.refl _ _) _
      have X2 := Lib.hid (Blk.new w8 49 #[.slice A2 n2 c2, .int .i64 room, .int .i64 lost2])
      have X1 := Lib.hid (xob.alloc (.cells #[.slice A2 n2 c2, .int .i64 room, .int .i64 lost2] 49))
      have HF1 := Lib.hid (F1b.below hb8)
      have HF2 := Lib.hid (y1.below hb8)
      have HW1 := Lib.hid (W1b.fr (s := fun _ => True) (q := Kp gc vc) (Fr.of_below hb8) (fun _ _ _ => trivial) (fun _ h _ => h))
      have HW2 := Lib.hid (y3.fr (s := fun _ => True) (q := fun _ => True) (Fr.of_below hb8) (fun _ _ _ => trivial) (fun _ _ _ => trivial))
      have HB8 := Lib.hid (balloc hB8 (.cells #[.slice A2 n2 c2, .int .i64 room, .int .i64 lost2] 49))
      have HMS2 := Lib.hid y2
      clear xob F1b W1b y1 y2 y3 hB8 hb8
      generalize w8.heap.size = bo2 at *
      generalize w8.alloc (.cells #[.slice A2 n2 c2, .int .i64 room, .int .i64 lost2] 49) = w9 at *
      have hn512 : n' ≤ 512 := by have := HF1.out.len; have := HF1.out.room0.2; have := HW1.out.1; have e : (msL rs').length = (msL ws').length := by rw [HMS1.out]
                                  rw [msL_len, msL_len] at e; omega
      have HSM := Lib.hid (refsame19_any (room := room) (lost := lost') (lost2 := lost2) HW1.out HW2.out hn512)
      have HI1 := Lib.hid (fun W (hb : Below w9.heap.size w9 W) => is19_any (HF1.out.below hb) HMS1.out (HW1.out.below hb))
      have HI2 := Lib.hid (fun W (hb : Below w9.heap.size w9 W) => is19_any (HF2.out.below hb) HMS2.out (HW2.out.below hb))
      have hs1 := fun W (hb : Below w9.heap.size w9 W) => flsame_any (HF1.out.below hb) (HF2.out.below hb)
      have hs2 := fun W (hb : Below w9.heap.size w9 W) => flsame_any (HF2.out.below hb) (HF1.out.below hb)
      simp only [sameFl_symm lost2 lost'] at hs2
      rw [HMS1.out, HMS2.out] at hs1 hs2
      have HS1 := Lib.hid hs1
      have HS2 := Lib.hid hs2
      have HNO := Lib.hid (fun W (hb : Below w9.heap.size w9 W) => flsame_none (HF1.out.below hb))
      clear hs1 hs2 hn512
      generalize sameFl lost' lost2 (msL ws') (msL ws2) = sm at *
      obtain ⟨a0, a1, a2⟩ := X1.out.three
      obtain ⟨b0, b1, b2⟩ := X2.out.three
      go_wp2_with fail
      refine HSM.out.mono ?_
      rintro e w10 ⟨rfl, z1⟩
      clear a0 a1 a2 b0 b1 b2
      obtain ⟨a0, a1, a2⟩ := (X1.out.below z1 X1.out.lt).three
      have Z1 := Lib.hid z1
      go_wp2_with fail
      refine (HI1.out _ Z1.out).mono ?_
      rintro e w11 ⟨rfl, z2⟩
      clear a0 a1 a2
      have Z2 := Lib.hid (bnext Z1.out z2)
      obtain ⟨b0, b1, b2⟩ := (X2.out.below Z2.out X2.out.lt).three
      clear z1 z2
      go_wp2_with fail
      refine (HI2.out _ Z2.out).mono ?_
      rintro e w12 ⟨rfl, z3⟩
      clear b0 b1 b2
      have Z3 := Lib.hid (bnext Z2.out z3)
      clear z3
      go_wp2_with fail
      refine (HS1.out _ Z3.out).mono ?_
      rintro e w13 ⟨rfl, z4⟩
      have Z4 := Lib.hid (bnext Z3.out z4)
      have hsm : (sm == sm) = true := by simp
      clear z4
      go_wp2_with fail
      refine (HS2.out _ Z4.out).mono ?_
      rintro e w14 ⟨rfl, z5⟩
      have Z5 := Lib.hid (bnext Z4.out z5)
      clear z5
      go_wp2_with fail
      refine (HNO.out _ Z5.out).mono ?_
      rintro e w15 ⟨rfl, rfl⟩
      go_wp2_with fail
      refine (works19_any _).mono ?_
      rintro e w16 ⟨rfl, z6⟩
      go_wp2_with fail
      go_ret
      exact ⟨rfl, bnext HB1.out (bnext HB8.out (bnext Z5.out z6))⟩
    case pos =>
      have hcl : c < l.length := by have := HN.out; omega
      obtain ⟨x, hx⟩ : ∃ x, l[c]? = some x := ⟨_, List.getElem?_eq_getElem hcl⟩
      obtain ⟨bl, off, rfl, hbl, hcell⟩ := ac_all HL.out hx
      obtain ⟨⟨⟨e1, e2, e3⟩, e4⟩, e5⟩ := HM.out x (List.mem_of_getElem? hx)
      have HACT := Lib.hid (fun W (hb : Below wr.heap.size wr W) => ((S.below hb).act x e4 e3 e5 ⟨e1, e2⟩).mono fun _ _ h => h.after)
      have hi1 : (c : Int) < (N : Int) := by omega
      have hkeep : ∀ W, Fr (Kp g v) wr W → (C3 b7 (.slice A n k) (.int .i64 room) (.int .i64 lost) W ∧ W.cell? ⟨bl, off + c * 10, none⟩ = some (.int .i64 x.wh) ∧ W.cell? ⟨bl, off + c * 10 + 1, none⟩ = some (.int .i64 x.pk) ∧ W.cell? ⟨bl, off + c * 10 + 2, none⟩ = some (.int .i64 x.ml.m.link) ∧ W.cell? ⟨bl, off + c * 10 + 3, none⟩ = some (.int .i64 x.ml.m.frm) ∧ W.cell? ⟨bl, off + c * 10 + 4, none⟩ = some (.int .i64 x.ml.m.dst) ∧ W.cell? ⟨bl, off + c * 10 + 5, none⟩ = some (.int .u32 x.ml.m.src) ∧ W.cell? ⟨bl, off + c * 10 + 6, none⟩ = some (.slice x.ml.A x.ml.m.bs.length x.ml.c) ∧ W.cell? ⟨bl, off + c * 10 + 7, none⟩ = some (.int .i64 x.ml.m.sent) ∧ W.cell? ⟨bl, off + c * 10 + 8, none⟩ = some (.int .i64 x.nw) ∧ W.cell? ⟨bl, off + c * 10 + 9, none⟩ = some (.int .i64 x.dl)) := fun W hW => by
        have hb := hW.blk S.box S.kp
        have hc : ∀ j u, (acL x)[j]? = some u → W.cell? ⟨bl, off + c * 10 + j, none⟩ = some u := fun j u hu => hW.cell ((S.base.cell (p := ⟨bl, off + c * 10 + j, none⟩) hbl).trans (hcell j u hu)) (S.old _ hbl)
        exact ⟨hb.three, hc 0 _ rfl, hc 1 _ rfl, hc 2 _ rfl, hc 3 _ rfl, hc 4 _ rfl, hc 5 _ rfl, hc 6 _ rfl, hc 7 _ rfl, hc 8 _ rfl, hc 9 _ rfl⟩
      have HKP := Lib.hid hkeep
      have hSd : Fr (Kp g v) wr wr.drew := Fr.drewN 1
      have hBd : Below wr.heap.size wr wr.drew := below_drewN (Below.refl _ _) 1
      have HS := Lib.hid S
      have hz := S.box
      obtain ⟨z0, z1, z2⟩ := hz.three
      have hb7l : w1.heap.size ≤ b7 := S.bn
      have Q7 := Lib.hid (show b7 ≠ bl by omega)
      have hc0 := HKP.out wr Fr.refl
      clear S hkeep hcell e1 e2 e3 e4 e5 hcl hx hz
      simp only [acA] at HACT
      go_upto_region 11 with fail
      obtain ⟨⟨d0, d1, d2⟩, x0', x1', x2', x3', x4', x5', x6', x7', x8', x9'⟩ := hc0
      go_region_law
        (first
        | (go_simp; go_at_call 19; refine (HACT.out wr.drew hBd).mono ?_; rintro e w5 ⟨g', v', rs', lost', A', n', c', ws', rfl, h5⟩; have hz5 := Fr.blk (w := wr.drew) h5.2.2.2.1 HS.out.box HS.out.kp; obtain ⟨q0, q1, q2⟩ := hz5.three; obtain ⟨y0, y1, y2⟩ := hz5.ice3))
      all_goals
        have HS2 := Lib.hid (After.next HS.out h5)
        clear h5 hz5 q0 q1 q2 y0 y1 y2 d0 d1 d2 z0 z1 z2 x0' x1' x2' x3' x4' x5' x6' x7' x8' x9' hSd hBd HACT HKP HS
        generalize ((w5.setCell ⟨b7, 0, none⟩ (.slice A' n' c')).setCell ⟨b7, 1, none⟩ (.int .i64 room)).setCell ⟨b7, 2, none⟩ (.int .i64 lost') = wn at *
        go_wp2_with fail
        go_roundw
        case rel => exact ⟨c + 1, g', lost', v', rs', ws', A', n', c', by omega, rfl, rfl, by go_num, HS2.out⟩
        case measure => simp [intOf]; omega
theorem flightcopies_walk (room : Int) (l : List Ac) (N K : Nat) (hN : l.length = N) (B : Option Addr) (x0 y0 : Ac) (w : World) (hl : Rd w w.heap.size B (acC l)) (hNK : N ≤ K ∧ K ≤ 9223372036854775807) (hml : ∀ x ∈ l, (x.ml.m.bs.length ≤ x.ml.c ∧ x.ml.c ≤ maxLen ∧ Rd w w.heap.size x.ml.A (x.ml.m.bs.map b8)) ∧ x.nw ≤ 9223372036854775807)
    (hx0 : ((x0.ml.m.bs.length ≤ x0.ml.c ∧ x0.ml.c ≤ maxLen ∧ Rd w w.heap.size x0.ml.A (x0.ml.m.bs.map b8)) ∧ x0.nw ≤ 9223372036854775807)) (hy0 : ((y0.ml.m.bs.length ≤ y0.ml.c ∧ y0.ml.c ≤ maxLen ∧ Rd w w.heap.size y0.ml.A (y0.ml.m.bs.map b8)) ∧ y0.nw ≤ 9223372036854775807)) :
    Calls Try.prog 7 #[.int .i64 room, .slice B N K, .agg (acL x0 ++ acL y0).toArray] w fun e w' => e = .returned (.bool true) ∧ Below w.heap.size w w' := by
  cases hq : fewB l 30
  · exact flightcopies_no room l N K hN B x0 y0 w hl hNK (.inl hq)
  cases hx : fewB [x0, y0] 2
  · exact flightcopies_no room l N K hN B x0 y0 w hl hNK (.inr (.inl hx))
  by_cases hr : 1 ≤ room ∧ room ≤ 512
  · obtain ⟨r, rfl⟩ := Int.eq_ofNat_of_zero_le (show 0 ≤ room by omega)
    exact flightcopies_yes r l N K hN B x0 y0 w hl hNK hq hx (by omega) hml hx0 hy0
  · exact flightcopies_no room l N K hN B x0 y0 w hl hNK (.inr (.inr hr))
end Go.Proofs.Ytgdkobknjgbdbaa
