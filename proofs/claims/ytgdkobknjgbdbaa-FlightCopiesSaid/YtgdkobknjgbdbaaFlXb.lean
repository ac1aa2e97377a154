/- act: Late. -/
import Derived.Test.YtgdkobknjgbdbaaFlY
namespace Go.Proofs.Ytgdkobknjgbdbaa
set_option linter.unusedVariables false
set_option linter.unusedSimpArgs false
open Go.RowKit
set_option maxRecDepth 100000

set_option maxHeartbeats 4000000 in
theorem act_late {n0 g room lost : Nat} {v : Value} {rs ws : List Ml} {w : World} {p : Nat → Prop} {A : Option Addr} {n k : Nat} (x : Ac) (hx : x.wh = 7) (hnow : x.nw ≤ 9223372036854775807) (hF : Fl w n0 g v rs room lost) (hn0 : n0 ≤ w.heap.size) (hms : msL rs = msL ws) (hW : Want w p A n k ws) (hp : ∀ b, p b → Kp g v b) :
    Calls Try.prog 19 #[.pointer (some ⟨g, 0, none⟩), .agg #[.slice A n k, .int .i64 room, .int .i64 lost], .agg (acA x)] w (ActOk w n0 g v rs room p) := by
  have x0 := ((Blk.new w 49 #[.slice A n k, .int .i64 room, .int .i64 lost]).alloc (.cells (acA x) 45)).alloc (.cells #[.slice none 0 0, .int .i64 0, .int .i64 0] 49)
  have x1 := (Blk.new (w.alloc (.cells #[.slice A n k, .int .i64 room, .int .i64 lost] 49)) 45 (acA x)).alloc (.cells #[.slice none 0 0, .int .i64 0, .int .i64 0] 49)
  have x2 := Blk.new ((w.alloc (.cells #[.slice A n k, .int .i64 room, .int .i64 lost] 49)).alloc (.cells (acA x) 45)) 49 #[.slice none 0 0, .int .i64 0, .int .i64 0]
  simp only [World.size_alloc] at x1 x2
  have B0 : Below w.heap.size w (((w.alloc (.cells #[.slice A n k, .int .i64 room, .int .i64 lost] 49)).alloc (.cells (acA x) 45)).alloc (.cells #[.slice none 0 0, .int .i64 0, .int .i64 0] 49)) := balloc (balloc (balloc (Below.refl _ _) _) _) _
  have X := Lib.hid (And.intro x0 (And.intro x1 (And.intro x2 B0)))
  have hn512 : n ≤ 512 := by have := hF.len; have := hF.room0.2; have := hW.1; have e : (msL rs).length = (msL ws).length := by rw [hms]
                             rw [msL_len, msL_len] at e; omega
  have gl := hF.blk.lt
  have HGO := Lib.hid (show ∀ b, Or' p w b → Kp g v b from fun b hb => hb.elim (fun h => hp b h.1) (fun h => ⟨by omega, fun e => by have := hF.row_lt b e; omega⟩))
  have hsw := sents hms hF.ok
  have HRT := Lib.hid (fun W (hb : Below w.heap.size w W) => (refltg_any (room := room) (lost := lost) x.nw x.dl (hW.p1 hb) hn512 hnow hsw).mono fun _ _ h => h.cells)
  have HPT := Lib.hid (fun W (hb : Below w.heap.size w W) => (lateg_any x.nw x.dl (hF.below hb) (Nat.le_trans hn0 hb.size) hnow).mono fun _ _ (And.intro h1 h2) => And.intro h1.cells h2)
  have HCO := Lib.hid (fun W (hb : Below w.heap.size w W) => count_any x.nw x.dl (hF.below hb) hnow)
  have HRC := Lib.hid (fun W (hW5 : Want W (fun b => p b ∧ b < w.heap.size) A n k ws) => refcount_any x.nw x.dl room lost ws n k hW.1 A W hW5.rd hn512 hW.2.1 hW.2.2.1 hnow hsw)
  rw [← hms] at HRT HRC
  generalize (lateP x.nw x.dl (msL rs)).1 = pm at *
  generalize (lateP x.nw x.dl (msL rs)).2 = pe at *
  generalize cntN x.nw x.dl (msL rs) = cn at *
  have HP := Lib.hid hp
  have HF := Lib.hid hF
  have HMS := Lib.hid hms
  have HW := Lib.hid hW
  have t0 : (x.wh == 0) = false := by rw [beq_eq_false_iff_ne]; omega
  have t1 : (x.wh == 1) = false := by rw [beq_eq_false_iff_ne]; omega
  have t2 : (x.wh == 2) = false := by rw [beq_eq_false_iff_ne]; omega
  have t3 : (x.wh == 3) = false := by rw [beq_eq_false_iff_ne]; omega
  have t4 : (x.wh == 4) = false := by rw [beq_eq_false_iff_ne]; omega
  have t5 : (x.wh == 5) = false := by rw [beq_eq_false_iff_ne]; omega
  have t6 : (x.wh == 6) = false := by rw [beq_eq_false_iff_ne]; omega
  have t7 : (x.wh == 7) = true := by rw [beq_iff_eq]; exact hx
  clear hF hms hW hx hsw hnow x0 x1 x2 B0 hp
  simp only [acA] at *
  go_enter Try.func19, Try.ntmps19
  go_wp2_with fail
  have HX0 := Lib.hid X.out.1
  have HX1 := Lib.hid X.out.2.1
  have HX2 := Lib.hid X.out.2.2.1
  have HB2 := Lib.hid X.out.2.2.2
  have hs2 : w.heap.size + 3 ≤ (((w.alloc (.cells #[.slice A n k, .int .i64 room, .int .i64 lost] 49)).alloc (.cells #[.int .i64 x.wh, .int .i64 x.pk, .int .i64 x.ml.m.link, .int .i64 x.ml.m.frm, .int .i64 x.ml.m.dst, .int .u32 x.ml.m.src, .slice x.ml.A x.ml.m.bs.length x.ml.c, .int .i64 x.ml.m.sent, .int .i64 x.nw, .int .i64 x.dl] 45)).alloc (.cells #[.slice none 0 0, .int .i64 0, .int .i64 0] 49)).heap.size := by simp
  clear X
  generalize ((w.alloc (.cells #[.slice A n k, .int .i64 room, .int .i64 lost] 49)).alloc (.cells #[.int .i64 x.wh, .int .i64 x.pk, .int .i64 x.ml.m.link, .int .i64 x.ml.m.frm, .int .i64 x.ml.m.dst, .int .u32 x.ml.m.src, .slice x.ml.A x.ml.m.bs.length x.ml.c, .int .i64 x.ml.m.sent, .int .i64 x.nw, .int .i64 x.dl] 45)).alloc (.cells #[.slice none 0 0, .int .i64 0, .int .i64 0] 49) = w2 at *
  refine (HRT.out _ HB2.out).mono ?_
  rintro e w3 ⟨A', n', c', ws', rA, rc, rfl, hrr, hW3, hL3, hb3⟩
  have x1 := HX1.out.below hb3 HX1.out.lt
  have kx0 := (x1).cell 0
  have kx1 := (x1).cell 1
  have kx2 := (x1).cell 2
  have kx3 := (x1).cell 3
  have kx4 := (x1).cell 4
  have kx5 := (x1).cell 5
  have kx6 := (x1).cell 6
  have kx7 := (x1).cell 7
  have kx8 := (x1).cell 8
  have kx9 := (x1).cell 9
  simp only [List.getElem?_toArray, List.getElem?_cons_zero, List.getElem?_cons_succ] at kx0 kx1 kx2 kx3 kx4 kx5 kx6 kx7 kx8 kx9
  have hs3 := hb3.size
  go_upto_region 31 with fail
  have xo := (Blk.new w3 49 #[.slice A' n' c', .int .i64 room, .int .i64 lost]).alloc (.cells #[.int .i64 pm.link, .int .i64 pm.frm, .int .i64 pm.dst, .int .u32 pm.src, .slice rA pm.bs.length rc, .int .i64 pm.sent] 33)
  have xm := Blk.new (w3.alloc (.cells #[.slice A' n' c', .int .i64 room, .int .i64 lost] 49)) 33 #[.int .i64 pm.link, .int .i64 pm.frm, .int .i64 pm.dst, .int .u32 pm.src, .slice rA pm.bs.length rc, .int .i64 pm.sent]
  simp only [World.size_alloc] at xm
  have b34 : Below w3.heap.size w3 ((w3.alloc (.cells #[.slice A' n' c', .int .i64 room, .int .i64 lost] 49)).alloc (.cells #[.int .i64 pm.link, .int .i64 pm.frm, .int .i64 pm.dst, .int .u32 pm.src, .slice rA pm.bs.length rc, .int .i64 pm.sent] 33)) := balloc (balloc (Below.refl _ _) _) _
  have x1' := x1.below b34 x1.lt
  have g2 := (HX2.out.below hb3 HX2.out.lt).below b34 (HX2.out.below hb3 HX2.out.lt).lt
  clear kx0 kx1 kx2 kx3 kx4 kx5 kx6 kx7 kx8 kx9
  clear x1
  generalize (w3.alloc (.cells #[.slice A' n' c', .int .i64 room, .int .i64 lost] 49)).alloc (.cells #[.int .i64 pm.link, .int .i64 pm.frm, .int .i64 pm.dst, .int .u32 pm.src, .slice rA pm.bs.length rc, .int .i64 pm.sent] 33) = w4 at *
  have kx0 := (x1').cell 0
  have kx1 := (x1').cell 1
  have kx2 := (x1').cell 2
  have kx3 := (x1').cell 3
  have kx4 := (x1').cell 4
  have kx5 := (x1').cell 5
  have kx6 := (x1').cell 6
  have kx7 := (x1').cell 7
  have kx8 := (x1').cell 8
  have kx9 := (x1').cell 9
  simp only [List.getElem?_toArray, List.getElem?_cons_zero, List.getElem?_cons_succ] at kx0 kx1 kx2 kx3 kx4 kx5 kx6 kx7 kx8 kx9
  have B4 : Below w.heap.size w w4 := bnext (bnext HB2.out hb3) b34
  have hs4 := b34.size
  go_wp2_with fail
  refine (HCO.out _ B4).mono ?_
  rintro e w4c ⟨rfl, b4c⟩
  clear kx0 kx1 kx2 kx3 kx4 kx5 kx6 kx7 kx8 kx9
  replace xo := xo.below b4c xo.lt
  replace xm := xm.below b4c xm.lt
  replace g2 := g2.below b4c g2.lt
  replace x1' := x1'.below b4c x1'.lt
  replace b34 := bnext b34 b4c
  replace B4 := bnext B4 b4c
  replace hs4 := b34.size
  clear b4c
  have kx0 := (x1').cell 0
  have kx1 := (x1').cell 1
  have kx2 := (x1').cell 2
  have kx3 := (x1').cell 3
  have kx4 := (x1').cell 4
  have kx5 := (x1').cell 5
  have kx6 := (x1').cell 6
  have kx7 := (x1').cell 7
  have kx8 := (x1').cell 8
  have kx9 := (x1').cell 9
  simp only [List.getElem?_toArray, List.getElem?_cons_zero, List.getElem?_cons_succ] at kx0 kx1 kx2 kx3 kx4 kx5 kx6 kx7 kx8 kx9
  go_wp2_with fail
  refine (HPT.out _ B4).mono ?_
  rintro e w5 ⟨⟨pA, pc, rfl, h1, h2, h3, h4⟩, v', rs', hG, hL5, hpr⟩
  go_upto_region 33 with fail
  clear kx0 kx1 kx2 kx3 kx4 kx5 kx6 kx7 kx8 kx9
  obtain ⟨F5, f5, hv5⟩ := id hG
  have hs5 := f5.2.2.2.1
  have hKn : ∀ b, w.heap.size ≤ b → Kp g v b := fun b hb => HGO.out b (.inr hb)
  have hKo : ∀ b, Or' (fun b => p b ∧ b < w.heap.size) w2 b → Kp g v b := fun b hb => hb.elim (fun h => HGO.out b (.inl h.1)) (fun h => hKn b (by omega))
  have xo5 := (f5.blk xo (hKn _ (by omega))).alloc (.cells #[.int .i64 pm.link, .int .i64 pm.frm, .int .i64 pm.dst, .int .u32 pm.src, .slice pA pm.bs.length pc, .int .i64 pm.sent] 33)
  have xm5 := (f5.blk xm (hKn _ (by omega))).alloc (.cells #[.int .i64 pm.link, .int .i64 pm.frm, .int .i64 pm.dst, .int .u32 pm.src, .slice pA pm.bs.length pc, .int .i64 pm.sent] 33)
  have xg5 := (f5.blk g2 (hKn _ (by omega))).alloc (.cells #[.int .i64 pm.link, .int .i64 pm.frm, .int .i64 pm.dst, .int .u32 pm.src, .slice pA pm.bs.length pc, .int .i64 pm.sent] 33)
  have xa5 := (f5.blk x1' (hKn _ (by omega))).alloc (.cells #[.int .i64 pm.link, .int .i64 pm.frm, .int .i64 pm.dst, .int .u32 pm.src, .slice pA pm.bs.length pc, .int .i64 pm.sent] 33)
  have xr5 := (f5.blk ((HX0.out.below hb3 HX0.out.lt).below b34 (HX0.out.below hb3 HX0.out.lt).lt) (hKn _ (Nat.le_refl _))).alloc (.cells #[.int .i64 pm.link, .int .i64 pm.frm, .int .i64 pm.dst, .int .u32 pm.src, .slice pA pm.bs.length pc, .int .i64 pm.sent] 33)
  have xn5 := Blk.new w5 33 #[.int .i64 pm.link, .int .i64 pm.frm, .int .i64 pm.dst, .int .u32 pm.src, .slice pA pm.bs.length pc, .int .i64 pm.sent]
  have hr5 : Rd w5 w5.heap.size rA (pm.bs.map b8) := ((hrr.fr (q := fun b => Kp g v b) (r := fun _ => True) (Fr.of_below b34) (fun _ _ _ => trivial) (fun b hb _ => hKo b hb)).fr f5 (fun b hb _ => hb) (fun b hb _ => hb)).rd
  have b55 : Below w5.heap.size w5 (w5.alloc (.cells #[.int .i64 pm.link, .int .i64 pm.frm, .int .i64 pm.dst, .int .u32 pm.src, .slice pA pm.bs.length pc, .int .i64 pm.sent] 33)) := balloc (Below.refl _ _) _
  have HSM := Lib.hid (fun W (hb : Below (w5.alloc (.cells #[.int .i64 pm.link, .int .i64 pm.frm, .int .i64 pm.dst, .int .u32 pm.src, .slice pA pm.bs.length pc, .int .i64 pm.sent] 33)).heap.size (w5.alloc (.cells #[.int .i64 pm.link, .int .i64 pm.frm, .int .i64 pm.dst, .int .u32 pm.src, .slice pA pm.bs.length pc, .int .i64 pm.sent] 33)) W) => by
    have h := refsame_any ⟨pm, rA, rc⟩ ⟨pm, pA, pc⟩ W ((hr5.below (bnext b55 hb)).more (bnext b55 hb).size) ((h3.below (bnext b55 hb)).more (bnext b55 hb).size)
    simp only [sameM_self, mlA] at h
    exact h)
  have HB5 := Lib.hid b55
  have XO := Lib.hid xo5
  have XA := Lib.hid xa5
  have XR := Lib.hid xr5
  have HWR := Lib.hid (show Want w5 (fun b => p b ∧ b < w.heap.size) A n k ws from ((HW.out.p1 B4).fr f5 (fun b hb _ => HGO.out b (.inl hb)) (fun b hb _ => hb)))
  have XG := Lib.hid xg5
  have XM := Lib.hid xm5
  have XN := Lib.hid xn5
  have HG := Lib.hid hG
  have H5 := Lib.hid (And.intro hpr (hL5.trans hL3.symm))
  have HW3 := Lib.hid hW3
  have HB3 := Lib.hid (And.intro hb3 b34)
  clear xa5 xr5 xo xm g2 xo5 xm5 xg5 xn5 x1' hr5 b55 hG F5 f5 hv5 hpr hL5 hL3 hW3 hb3 b34 hKn hKo h1 h2 h3 h4 hrr B4
  generalize w5.alloc (.cells #[.int .i64 pm.link, .int .i64 pm.frm, .int .i64 pm.dst, .int .u32 pm.src, .slice pA pm.bs.length pc, .int .i64 pm.sent] 33) = w5' at *
  obtain ⟨d0, d1, d2⟩ := XO.out.three
  obtain ⟨e0, e1, e2, e3, e4, e5⟩ := XM.out.six
  obtain ⟨n0', n1, n2, n3, n4, n5⟩ := XN.out.six
  obtain ⟨z0, z1, z2⟩ := XG.out.three
  obtain ⟨y0, y1, y2⟩ := XG.out.ice3
  obtain ⟨a0, a1, a2⟩ := XR.out.three
  have a8 := XA.out.cell 8
  have a9 := XA.out.cell 9
  simp only [List.getElem?_toArray, List.getElem?_cons_zero, List.getElem?_cons_succ] at a8 a9
  have S0 : C20 w3.heap.size (w3.heap.size + 1) w5.heap.size w.heap.size (w.heap.size + 1) (.slice A' n' c') (.int .i64 room) (.int .i64 lost) (.int .i64 pm.link) (.int .i64 pm.frm) (.int .i64 pm.dst) (.int .u32 pm.src) (.slice rA pm.bs.length rc) (.int .i64 pm.sent) (.int .i64 pm.link) (.int .i64 pm.frm) (.int .i64 pm.dst) (.int .u32 pm.src) (.slice pA pm.bs.length pc) (.int .i64 pm.sent) (.slice A n k) (.int .i64 room) (.int .i64 lost) (.int .i64 x.nw) (.int .i64 x.dl) w5'.drew := ⟨⟨XO.out.three, XM.out.six, XN.out.six⟩, XR.out.three, a8, a9⟩
  have QN := Lib.hid (show w.heap.size + 1 + 1 ≠ w3.heap.size ∧ w.heap.size + 1 + 1 ≠ w3.heap.size + 1 ∧ w.heap.size + 1 + 1 ≠ w5.heap.size from ⟨by omega, by omega, by omega⟩)
  have Q3 := Lib.hid (show w.heap.size + 1 + 1 ≠ w.heap.size by omega)
  have Q4 := Lib.hid (show w.heap.size + 1 + 1 ≠ w.heap.size + 1 by omega)
  go_region_held3 (fun W => C20 w3.heap.size (w3.heap.size + 1) w5.heap.size w.heap.size (w.heap.size + 1) (.slice A' n' c') (.int .i64 room) (.int .i64 lost) (.int .i64 pm.link) (.int .i64 pm.frm) (.int .i64 pm.dst) (.int .u32 pm.src) (.slice rA pm.bs.length rc) (.int .i64 pm.sent) (.int .i64 pm.link) (.int .i64 pm.frm) (.int .i64 pm.dst) (.int .u32 pm.src) (.slice pA pm.bs.length pc) (.int .i64 pm.sent) (.slice A n k) (.int .i64 room) (.int .i64 lost) (.int .i64 x.nw) (.int .i64 x.dl) W) (first | exact S0 | exact S7 | exact S6 | exact c20_far _ _ _ S7 QN.out Q3.out Q4.out)
    (first
    | (go_at_call 23; refine (HSM.out _ (Below.drew (Below.refl _ _))).mono ?_; rintro e w6 ⟨rfl, b6⟩; have b6' : Below w5'.heap.size w5' w6 := below_of_drewN (n := 1) b6; have S6 : C20 w3.heap.size (w3.heap.size + 1) w5.heap.size w.heap.size (w.heap.size + 1) (.slice A' n' c') (.int .i64 room) (.int .i64 lost) (.int .i64 pm.link) (.int .i64 pm.frm) (.int .i64 pm.dst) (.int .u32 pm.src) (.slice rA pm.bs.length rc) (.int .i64 pm.sent) (.int .i64 pm.link) (.int .i64 pm.frm) (.int .i64 pm.dst) (.int .u32 pm.src) (.slice pA pm.bs.length pc) (.int .i64 pm.sent) (.slice A n k) (.int .i64 room) (.int .i64 lost) (.int .i64 x.nw) (.int .i64 x.dl) w6 := And.intro (And.intro (XO.out.below b6' XO.out.lt).three (And.intro (XM.out.below b6' XM.out.lt).six (XN.out.below b6' XN.out.lt).six)) (And.intro (XR.out.below b6' XR.out.lt).three (And.intro ((XA.out.below b6' XA.out.lt).cell 8) ((XA.out.below b6' XA.out.lt).cell 9))))
    | (go_at_call 43; refine (HRC.out _ (HWR.out.fr (s := fun _ => True) (Fr.of_below (bnext HB5.out b6')) (fun _ _ _ => trivial) (fun _ h _ => h))).mono ?_; rintro e w7 ⟨rfl, b7⟩; have b7' := bnext b6' b7; have S7 : C20 w3.heap.size (w3.heap.size + 1) w5.heap.size w.heap.size (w.heap.size + 1) (.slice A' n' c') (.int .i64 room) (.int .i64 lost) (.int .i64 pm.link) (.int .i64 pm.frm) (.int .i64 pm.dst) (.int .u32 pm.src) (.slice rA pm.bs.length rc) (.int .i64 pm.sent) (.int .i64 pm.link) (.int .i64 pm.frm) (.int .i64 pm.dst) (.int .u32 pm.src) (.slice pA pm.bs.length pc) (.int .i64 pm.sent) (.slice A n k) (.int .i64 room) (.int .i64 lost) (.int .i64 x.nw) (.int .i64 x.dl) w7 := And.intro (And.intro (XO.out.below b7' XO.out.lt).three (And.intro (XM.out.below b7' XM.out.lt).six (XN.out.below b7' XN.out.lt).six)) (And.intro (XR.out.below b7' XR.out.lt).three (And.intro ((XA.out.below b7' XA.out.lt).cell 8) ((XA.out.below b7' XA.out.lt).cell 9))); obtain ⟨k0, k1, k2⟩ := (XG.out.below b7' XG.out.lt).three; obtain ⟨l0, l1, l2⟩ := (XG.out.below b7' XG.out.lt).ice3)
    | (go_at_call 10; refine (num19_any _ _).mono ?_; rintro e w' ⟨rfl, rfl⟩))
  go_wp2
  refine bodyPost_ret (v := .tuple #[.pointer (some ⟨g, 0, none⟩), .agg #[.slice A' n' c', .int .i64 room, .int .i64 lost], .bool true]) (by simp [results, Try.results19, go_sem, k0, k1, k2]) rfl ?_
  refine act_fin HF.out HB2.out HB3.out.1 HB3.out.2 HG.out (fun x h => .inl (H5.out.1 x h)) ?_ HW3.out (fun b hb => HP.out b hb) H5.out.2
  exact ((((Fr.of_below (bnext HB5.out b7')).putG (by omega) 0 _).putG (by omega) 1 _).putG (by omega) 2 _)
end Go.Proofs.Ytgdkobknjgbdbaa
