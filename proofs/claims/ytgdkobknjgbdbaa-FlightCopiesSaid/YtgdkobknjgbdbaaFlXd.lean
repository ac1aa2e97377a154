/- act: Put. -/
import Derived.Test.YtgdkobknjgbdbaaFlXc
namespace Go.Proofs.Ytgdkobknjgbdbaa
set_option linter.unusedVariables false
set_option linter.unusedSimpArgs false
open Go.RowKit
set_option maxRecDepth 100000

set_option maxHeartbeats 4000000 in
theorem act_put0 {n0 g room lost : Nat} {v : Value} {rs ws : List Ml} {w : World} {p : Nat → Prop} {A : Option Addr} {n k : Nat} (x : Ac) (hx : x.wh = 0) (hxr : RdP w p x.ml.A (x.ml.m.bs.map b8)) (hxl : x.ml.m.bs.length ≤ 60) (hxc : x.ml.m.bs.length ≤ x.ml.c ∧ x.ml.c ≤ maxLen) (hF : Fl w n0 g v rs room lost) (hn0 : n0 ≤ w.heap.size) (hms : msL rs = msL ws) (hW : Want w p A n k ws) (hp : ∀ b, p b → Kp g v b) :
    Calls Try.prog 19 #[.pointer (some ⟨g, 0, none⟩), .agg #[.slice A n k, .int .i64 room, .int .i64 lost], .agg (acA x)] w (ActOk w n0 g v rs room p) := by
  have x0 := ((Blk.new w 49 #[.slice A n k, .int .i64 room, .int .i64 lost]).alloc (.cells (acA x) 45)).alloc (.cells #[.slice none 0 0, .int .i64 0, .int .i64 0] 49)
  have x1 := (Blk.new (w.alloc (.cells #[.slice A n k, .int .i64 room, .int .i64 lost] 49)) 45 (acA x)).alloc (.cells #[.slice none 0 0, .int .i64 0, .int .i64 0] 49)
  have x2 := Blk.new ((w.alloc (.cells #[.slice A n k, .int .i64 room, .int .i64 lost] 49)).alloc (.cells (acA x) 45)) 49 #[.slice none 0 0, .int .i64 0, .int .i64 0]
  simp only [World.size_alloc] at x1 x2
  have B0 : Below w.heap.size w (((w.alloc (.cells #[.slice A n k, .int .i64 room, .int .i64 lost] 49)).alloc (.cells (acA x) 45)).alloc (.cells #[.slice none 0 0, .int .i64 0, .int .i64 0] 49)) := balloc (balloc (balloc (Below.refl _ _) _) _) _
  have X := Lib.hid (And.intro x0 (And.intro x1 (And.intro x2 B0)))
  have hn512 : n ≤ 512 := by have := hF.len; have := hF.room0.2; have := hW.1; have e : (msL rs).length = (msL ws).length := by rw [hms]
                             rw [msL_len, msL_len] at e; omega
  have gl := hF.blk.lt
  have HGO := Lib.hid (show ∀ b, Or' p w b → Kp g v b from fun b hb => hb.elim (fun h => hp b h.1) (fun h => ⟨by omega, fun e => by have := hF.row_lt b e; omega⟩))
  obtain ⟨i0, hi0, hz0, hz1, hz2⟩ := info_parts u8_info
  have hlen : rs.length = n := by have e : (msL rs).length = (msL ws).length := by rw [hms]
                                  rw [msL_len, msL_len, hW.1] at e; exact e
  have HXR := Lib.hid (fun W (hb : Below w.heap.size w W) => (show RdP W (fun b => p b ∧ b < w.heap.size) x.ml.A (x.ml.m.bs.map b8) from hxr.fr (r := fun _ => True) (Fr.of_below hb) (fun _ _ _ => trivial) (fun b hb hl => ⟨hb, hl⟩)))
  have HRT := Lib.hid (fun W (hb : Below w.heap.size w W) => refputg_any (room := room) (lost := lost) x.ml (hW.p1 hb) hn512 hF.lost0 (HXR.out W hb))
  have HPT := Lib.hid (fun W A1 c1 (hb : Below w.heap.size w W) (hr : Rd W W.heap.size A1 (x.ml.m.bs.map b8)) => by
    have h := putg_any ⟨x.ml.m, A1, c1⟩ (hF.below hb) (Nat.le_trans hn0 hb.size) hr (by show x.ml.m.bs.length ≤ _; omega)
    simp only [mlA, hlen] at h
    exact h)
  have HLL := Lib.hid (show putL x.ml.m room (msL rs) = putL x.ml.m room (msL ws) by rw [hms])
  generalize putLost x.ml.m room n lost = lo at *
  generalize errPut x.ml.m room n = pe at *
  simp only [mlA] at HRT
  have HP := Lib.hid hp
  have HXC := Lib.hid hxc
  have HF := Lib.hid hF
  have HMS := Lib.hid hms
  have HW := Lib.hid hW
  have t0 : (x.wh == 0) = true := by rw [beq_iff_eq]; exact hx
  clear hF hms hW hx hxr hlen hxc x0 x1 x2 B0 hp
  simp only [acA] at *
  go_enter Try.func19, Try.ntmps19
  go_upto_region 7 with fail
  have HX0 := Lib.hid X.out.1
  have HX1 := Lib.hid X.out.2.1
  have HX2 := Lib.hid X.out.2.2.1
  have HB2 := Lib.hid X.out.2.2.2
  have hs2 : w.heap.size + 3 ≤ (((w.alloc (.cells #[.slice A n k, .int .i64 room, .int .i64 lost] 49)).alloc (.cells #[.int .i64 x.wh, .int .i64 x.pk, .int .i64 x.ml.m.link, .int .i64 x.ml.m.frm, .int .i64 x.ml.m.dst, .int .u32 x.ml.m.src, .slice x.ml.A x.ml.m.bs.length x.ml.c, .int .i64 x.ml.m.sent, .int .i64 x.nw, .int .i64 x.dl] 45)).alloc (.cells #[.slice none 0 0, .int .i64 0, .int .i64 0] 49)).heap.size := by simp
  clear X
  generalize ((w.alloc (.cells #[.slice A n k, .int .i64 room, .int .i64 lost] 49)).alloc (.cells #[.int .i64 x.wh, .int .i64 x.pk, .int .i64 x.ml.m.link, .int .i64 x.ml.m.frm, .int .i64 x.ml.m.dst, .int .u32 x.ml.m.src, .slice x.ml.A x.ml.m.bs.length x.ml.c, .int .i64 x.ml.m.sent, .int .i64 x.nw, .int .i64 x.dl] 45)).alloc (.cells #[.slice none 0 0, .int .i64 0, .int .i64 0] 49) = w2 at *
  have kx0 := (HX1.out).cell 0
  have kx1 := (HX1.out).cell 1
  have kx2 := (HX1.out).cell 2
  have kx3 := (HX1.out).cell 3
  have kx4 := (HX1.out).cell 4
  have kx5 := (HX1.out).cell 5
  have kx6 := (HX1.out).cell 6
  have kx7 := (HX1.out).cell 7
  have kx8 := (HX1.out).cell 8
  have kx9 := (HX1.out).cell 9
  simp only [List.getElem?_toArray, List.getElem?_cons_zero, List.getElem?_cons_succ] at kx0 kx1 kx2 kx3 kx4 kx5 kx6 kx7 kx8 kx9
  go_upto_region 8 with fail
  clear kx0 kx1 kx2 kx3 kx4 kx5 kx6 kx7 kx8 kx9
  have xb := Blk.new w2 33 #[.int .i64 x.ml.m.link, .int .i64 x.ml.m.frm, .int .i64 x.ml.m.dst, .int .u32 x.ml.m.src, .slice x.ml.A x.ml.m.bs.length x.ml.c, .int .i64 x.ml.m.sent]
  have xa := HX1.out.alloc (.cells #[.int .i64 x.ml.m.link, .int .i64 x.ml.m.frm, .int .i64 x.ml.m.dst, .int .u32 x.ml.m.src, .slice x.ml.A x.ml.m.bs.length x.ml.c, .int .i64 x.ml.m.sent] 33)
  have xr := HX0.out.alloc (.cells #[.int .i64 x.ml.m.link, .int .i64 x.ml.m.frm, .int .i64 x.ml.m.dst, .int .u32 x.ml.m.src, .slice x.ml.A x.ml.m.bs.length x.ml.c, .int .i64 x.ml.m.sent] 33)
  have xg := HX2.out.alloc (.cells #[.int .i64 x.ml.m.link, .int .i64 x.ml.m.frm, .int .i64 x.ml.m.dst, .int .u32 x.ml.m.src, .slice x.ml.A x.ml.m.bs.length x.ml.c, .int .i64 x.ml.m.sent] 33)
  have b2b : Below w2.heap.size w2 (w2.alloc (.cells #[.int .i64 x.ml.m.link, .int .i64 x.ml.m.frm, .int .i64 x.ml.m.dst, .int .u32 x.ml.m.src, .slice x.ml.A x.ml.m.bs.length x.ml.c, .int .i64 x.ml.m.sent] 33)) := balloc (Below.refl _ _) _
  have hs2b : (w2.alloc (.cells #[.int .i64 x.ml.m.link, .int .i64 x.ml.m.frm, .int .i64 x.ml.m.dst, .int .u32 x.ml.m.src, .slice x.ml.A x.ml.m.bs.length x.ml.c, .int .i64 x.ml.m.sent] 33)).heap.size = w2.heap.size + 1 := by simp
  have hsz2b : w2.heap.size + 1 ≤ (w2.alloc (.cells #[.int .i64 x.ml.m.link, .int .i64 x.ml.m.frm, .int .i64 x.ml.m.dst, .int .u32 x.ml.m.src, .slice x.ml.A x.ml.m.bs.length x.ml.c, .int .i64 x.ml.m.sent] 33)).heap.size := Nat.le_of_eq hs2b.symm
  clear hs2b
  generalize w2.alloc (.cells #[.int .i64 x.ml.m.link, .int .i64 x.ml.m.frm, .int .i64 x.ml.m.dst, .int .u32 x.ml.m.src, .slice x.ml.A x.ml.m.bs.length x.ml.c, .int .i64 x.ml.m.sent] 33) = w2b at *
  have k4 := xb.cell 4
  have k4' := (xb.alloc (.cells #[] 5)).cell 4
  simp only [List.getElem?_toArray, List.getElem?_cons_zero, List.getElem?_cons_succ] at k4 k4'
  have HON := Lib.hid (show (w2b.alloc (.cells #[] 5)).ownsRow w2b.heap.size 5 1 (.slice (some ⟨w2b.heap.size, 0, none⟩) 0 0) 0 [] from World.ownsRow_lit w2b #[] 0 (Nat.le_refl _) (by simp [maxLen]) (by simp))
  have HB2B := Lib.hid (bnext HB2.out b2b)
  have HXR2 := Lib.hid (HXR.out _ (balloc HB2B.out (.cells #[] 5))).rd
  have XS := Lib.hid (And.intro xb (And.intro xa (And.intro xr xg)))
  clear xb xa xr xg
  generalize hm : x.ml.m.bs.length = m at *
  have HM := Lib.hid hm
  clear hm
  go_upto_region 9 with (at_builtin; refine wpList_append_rd rfl (.tmp 42) (.tmp 44) _ rfl w2b.heap.size 5 i0 _ 1 1 Try.underlying31 hi0 hz0 hz1 hz2 rfl (by omega) (.slice (some ⟨w2b.heap.size, 0, none⟩) 0 0) 0 [] rfl HON.out m x.ml.c (x.ml.m.bs.map b8) rfl (by rw [List.length_map, HM.out]; omega) HXR2.out (b8_one _) (by simp only [maxLen]; omega) (by omega) (by simp) ?_; intro v1 w2c ho1 hg1 ha1; simp only [Nat.zero_add, List.nil_append] at ho1; obtain ⟨A1, c1, rfl, q1, q2, q3, q4⟩ := own_row ho1; obtain ⟨qs, ql⟩ := own_soft ho1; have fg : Fr (fun k => k ≠ w2b.heap.size) (w2b.alloc (.cells #[] 5)) w2c := Fr.grown hg1 (fun b hb e => hb (by simp [Value.ownBlock] at e; omega)); have xbc := fg.blk (XS.out.1.alloc _) (by omega); have k4c := xbc.cell 4; have f4c := xbc.frozen 4; simp only [List.getElem?_toArray, List.getElem?_cons_zero, List.getElem?_cons_succ] at k4c)
  have ye := xbc.set 4 (.slice A1 m c1)
  simp only [List.setIfInBounds_toArray, List.set_cons_zero, List.set_cons_succ] at ye
  have hsB := HB2B.out.size
  have fw : Fr (fun k => k < w2b.heap.size ∧ k ≠ w2.heap.size) w2b (w2c.setCell ⟨w2.heap.size, 4, none⟩ (.slice A1 m c1)) := (((Fr.alloc _).trans (fg.mono (fun b _ hb => by omega))).trans (Fr.set (a := ⟨w2.heap.size, 4, none⟩) (fun b hb => hb.2) _))
  have ya := fw.blk XS.out.2.1 ⟨XS.out.2.1.lt, by omega⟩
  have yr := fw.blk XS.out.2.2.1 ⟨XS.out.2.2.1.lt, by omega⟩
  have yg := fw.blk XS.out.2.2.2 ⟨XS.out.2.2.2.lt, by omega⟩
  have b2e : Below w.heap.size w (w2c.setCell ⟨w2.heap.size, 4, none⟩ (.slice A1 m c1)) := HB2B.out.trans (fw.below (B := w.heap.size) (by omega) (fun b hb => ⟨by omega, by omega⟩))
  have re : Rd (w2c.setCell ⟨w2.heap.size, 4, none⟩ (.slice A1 m c1)) (w2c.setCell ⟨w2.heap.size, 4, none⟩ (.slice A1 m c1)).heap.size A1 (x.ml.m.bs.map b8) := by
    rw [World.size_setCell]
    exact q3.off (fun a e => by have := q4 a e; omega) _
  have se : Soft (w2c.setCell ⟨w2.heap.size, 4, none⟩ (.slice A1 m c1)) A1 := qs.set _ _
  have le : ∀ a, A1 = some a → a.block < (w2c.setCell ⟨w2.heap.size, 4, none⟩ (.slice A1 m c1)).heap.size := fun a e => by rw [World.size_setCell]; exact ql a e
  have hse : w2b.heap.size ≤ (w2c.setCell ⟨w2.heap.size, 4, none⟩ (.slice A1 m c1)).heap.size := fw.2.2.2.1
  clear fw fg xbc hg1 ha1 ho1 q1 q2 q3 qs ql k4 k4' k4c f4c hsB
  generalize w2c.setCell ⟨w2.heap.size, 4, none⟩ (.slice A1 m c1) = w2e at *
  obtain ⟨d0, d1, d2⟩ := yr.three
  have kx0 := (ya).cell 0
  have kx1 := (ya).cell 1
  have kx2 := (ya).cell 2
  have kx3 := (ya).cell 3
  have kx4 := (ya).cell 4
  have kx5 := (ya).cell 5
  have kx6 := (ya).cell 6
  have kx7 := (ya).cell 7
  have kx8 := (ya).cell 8
  have kx9 := (ya).cell 9
  simp only [List.getElem?_toArray, List.getElem?_cons_zero, List.getElem?_cons_succ] at kx0 kx1 kx2 kx3 kx4 kx5 kx6 kx7 kx8 kx9
  go_wp2_with fail
  refine (HRT.out _ b2e).mono ?_
  rintro e w3 ⟨A', n', c', ws', rfl, hW3, hL3, hb3⟩
  clear d0 d1 d2
  clear kx0 kx1 kx2 kx3 kx4 kx5 kx6 kx7 kx8 kx9
  go_upto_region 10 with fail
  have hs3 := hb3.size
  have xo := Blk.new w3 49 #[.slice A' n' c', .int .i64 room, .int .i64 lo]
  have ym := (ye.below hb3 ye.lt).alloc (.cells #[.slice A' n' c', .int .i64 room, .int .i64 lo] 49)
  have yg3 := (yg.below hb3 yg.lt).alloc (.cells #[.slice A' n' c', .int .i64 room, .int .i64 lo] 49)
  have b34 : Below w3.heap.size w3 (w3.alloc (.cells #[.slice A' n' c', .int .i64 room, .int .i64 lo] 49)) := balloc (Below.refl _ _) _
  have r4 := (re.below (bnext hb3 b34)).more (bnext hb3 b34).size
  have s4 := se.fr (p := fun _ => True) (Fr.of_below (bnext hb3 b34)) (fun a e => ⟨le a e, trivial⟩)
  have hs4 := b34.size
  generalize w3.alloc (.cells #[.slice A' n' c', .int .i64 room, .int .i64 lo] 49) = w4 at *
  have B4 : Below w.heap.size w w4 := bnext (bnext b2e hb3) b34
  obtain ⟨e0, e1, e2, e3, e4, e5⟩ := ym.six
  go_wp2_with fail
  refine (HPT.out _ A1 c1 B4 r4).mono ?_
  rintro e w5 ⟨v', rs', rfl, hG, hL5, hpr⟩
  clear e0 e1 e2 e3 e4 e5
  obtain ⟨F5, f5, hv5⟩ := id hG
  have hs5 := f5.2.2.2.1
  have hKn : ∀ b, w.heap.size ≤ b → Kp g v b := fun b hb => HGO.out b (.inr hb)
  have hK4 : ∀ a, A1 = some a → Kp g v a.block := fun a e => hKn _ (by have := q4 a e; omega)
  have XN := Lib.hid (f5.blk ym (hKn _ (by omega)))
  have XG := Lib.hid (f5.blk yg3 (hKn _ (by omega)))
  have XO := Lib.hid (f5.blk xo (hKn _ (by omega)))
  have HI0 := Lib.hid (show IncA A1 m w5 w5 from by
    have h := IncA.start (f5.rd r4 hK4) (s4.fr f5 (fun a e => ⟨by have := le a e; omega, hK4 a e⟩))
    rw [HM.out] at h
    exact h)
  have HA := Lib.hid (And.intro q4 le)
  have HFIN := Lib.hid (And.intro b2e (And.intro hb3 (And.intro b34 (And.intro hG (And.intro hpr (And.intro hW3 (hL5.trans (HLL.out.trans hL3.symm))))))))
  clear hK4 hKn F5 f5 hv5 xo ym yg3 r4 s4 ye ya yr yg b2e re se le q4 hW3 hL3 hL5 hpr hG hb3 b34 B4 b2b
  go_wp2_with fail
  go_loopw [13] (fun i wr => ∃ c : Nat, c ≤ m ∧ i = .int .i64 c ∧ IncA A1 m w5 wr) (fun i _ => m - (intOf i).toNat)
  case atStart => exact ⟨0, by omega, rfl, HI0.out⟩
  case round =>
    obtain ⟨c, hc, rfl, hI⟩ := hrel
    have HI := Lib.hid hI
    have hfr : ∀ q : Nat, (∀ a, A1 = some a → q ≠ a.block) → (fun k => ∀ a, A1 = some a → k ≠ a.block) q := fun q h => h
    have xnr := hI.1.blk XN.out (hfr _ (fun a e => by have := HA.out.1 a e; omega))
    have xgr := hI.1.blk XG.out (hfr _ (fun a e => by have := HA.out.1 a e; omega))
    have xor := hI.1.blk XO.out (hfr _ (fun a e => by have := HA.out.2 a e; omega))
    clear hfr
    by_cases hlt : c < m
    · obtain ⟨b, off, z, he, hz, hf⟩ := hI.at hlt
      subst he
      have hi1 : (c : Int) < (m : Int) := by omega
      have n4 := xnr.cell 4
      simp only [List.getElem?_toArray, List.getElem?_cons_zero, List.getElem?_cons_succ] at n4
      clear hI xnr xgr xor
      go_wp2_with fail
      go_roundw
      case rel => exact ⟨c + 1, by omega, by go_num, HI.out.step hlt _⟩
      case measure => simp [intOf]; omega
    · obtain rfl : c = m := by omega
      have n4 := xnr.cell 4
      simp only [List.getElem?_toArray, List.getElem?_cons_zero, List.getElem?_cons_succ] at n4
      clear hI
      go_upto_region 15 with fail
      obtain ⟨z0, z1, z2⟩ := xgr.three
      obtain ⟨y0, y1, y2⟩ := xgr.ice3
      obtain ⟨d0, d1, d2⟩ := xor.three
      have S0 : C3 w3.heap.size (.slice A' n' c') (.int .i64 room) (.int .i64 lo) wr.drew := ⟨d0, d1, d2⟩
      have Q3 := Lib.hid (show w.heap.size + 1 + 1 ≠ w3.heap.size by omega)
      go_region_held3 (fun W => C3 w3.heap.size (.slice A' n' c') (.int .i64 room) (.int .i64 lo) W) (first | exact S0 | exact c3_far _ _ _ S0 Q3.out)
        (first
        | (go_at_call 10; refine (num19_any _ _).mono ?_; rintro e w' ⟨rfl, rfl⟩))
      go_wp2
      refine bodyPost_ret (v := .tuple #[.pointer (some ⟨g, 0, none⟩), .agg #[.slice A' n' c', .int .i64 room, .int .i64 lo], .bool true]) (by simp [results, Try.results19, go_sem, z0, z1, z2]) rfl ?_
      obtain ⟨g1, g2, g3, g4, g5, g6, g7⟩ := HFIN.out
      refine act_fin HF.out g1 g2 g3 g4 g5 ?_ g6 (fun b hb => HP.out b hb) g7
      have fI : Fr (fun q => q < w.heap.size ∨ (w2e.heap.size ≤ q ∧ q < w5.heap.size)) w5 wr := HI.out.1.mono (fun b _ hb a e => by have := HA.out.1 a e; have := HA.out.2 a e; omega)
      exact (((fI.trans (Fr.drewN 1)).putG (by omega) 0 _).putG (by omega) 1 _).putG (by omega) 2 _

set_option maxHeartbeats 4000000 in
theorem act_put1 {n0 g room lost : Nat} {v : Value} {rs ws : List Ml} {w : World} {p : Nat → Prop} {A : Option Addr} {n k : Nat} (x : Ac) (hx : x.wh = 1) (hxr : RdP w p x.ml.A (x.ml.m.bs.map b8)) (hxl : x.ml.m.bs.length ≤ 60) (hxc : x.ml.m.bs.length ≤ x.ml.c ∧ x.ml.c ≤ maxLen) (hF : Fl w n0 g v rs room lost) (hn0 : n0 ≤ w.heap.size) (hms : msL rs = msL ws) (hW : Want w p A n k ws) (hp : ∀ b, p b → Kp g v b) :
    Calls Try.prog 19 #[.pointer (some ⟨g, 0, none⟩), .agg #[.slice A n k, .int .i64 room, .int .i64 lost], .agg (acA x)] w (ActOk w n0 g v rs room p) := by
  have x0 := ((Blk.new w 49 #[.slice A n k, .int .i64 room, .int .i64 lost]).alloc (.cells (acA x) 45)).alloc (.cells #[.slice none 0 0, .int .i64 0, .int .i64 0] 49)
  have x1 := (Blk.new (w.alloc (.cells #[.slice A n k, .int .i64 room, .int .i64 lost] 49)) 45 (acA x)).alloc (.cells #[.slice none 0 0, .int .i64 0, .int .i64 0] 49)
  have x2 := Blk.new ((w.alloc (.cells #[.slice A n k, .int .i64 room, .int .i64 lost] 49)).alloc (.cells (acA x) 45)) 49 #[.slice none 0 0, .int .i64 0, .int .i64 0]
  simp only [World.size_alloc] at x1 x2
  have B0 : Below w.heap.size w (((w.alloc (.cells #[.slice A n k, .int .i64 room, .int .i64 lost] 49)).alloc (.cells (acA x) 45)).alloc (.cells #[.slice none 0 0, .int .i64 0, .int .i64 0] 49)) := balloc (balloc (balloc (Below.refl _ _) _) _) _
  have X := Lib.hid (And.intro x0 (And.intro x1 (And.intro x2 B0)))
  have hn512 : n ≤ 512 := by have := hF.len; have := hF.room0.2; have := hW.1; have e : (msL rs).length = (msL ws).length := by rw [hms]
                             rw [msL_len, msL_len] at e; omega
  have gl := hF.blk.lt
  have HGO := Lib.hid (show ∀ b, Or' p w b → Kp g v b from fun b hb => hb.elim (fun h => hp b h.1) (fun h => ⟨by omega, fun e => by have := hF.row_lt b e; omega⟩))
  obtain ⟨i0, hi0, hz0, hz1, hz2⟩ := info_parts u8_info
  have hlen : rs.length = n := by have e : (msL rs).length = (msL ws).length := by rw [hms]
                                  rw [msL_len, msL_len, hW.1] at e; exact e
  have HXR := Lib.hid (fun W (hb : Below w.heap.size w W) => (show RdP W (fun b => p b ∧ b < w.heap.size) x.ml.A (x.ml.m.bs.map b8) from hxr.fr (r := fun _ => True) (Fr.of_below hb) (fun _ _ _ => trivial) (fun b hb hl => ⟨hb, hl⟩)))
  have HRT := Lib.hid (fun W (hb : Below w.heap.size w W) => refputg_any (room := room) (lost := lost) x.ml (hW.p1 hb) hn512 hF.lost0 (HXR.out W hb))
  have HPT := Lib.hid (fun W A1 c1 (hb : Below w.heap.size w W) (hr : Rd W W.heap.size A1 (x.ml.m.bs.map b8)) => by
    have h := putg_any ⟨x.ml.m, A1, c1⟩ (hF.below hb) (Nat.le_trans hn0 hb.size) hr (by show x.ml.m.bs.length ≤ _; omega)
    simp only [mlA, hlen] at h
    exact h)
  have HLL := Lib.hid (show putL x.ml.m room (msL rs) = putL x.ml.m room (msL ws) by rw [hms])
  generalize putLost x.ml.m room n lost = lo at *
  generalize errPut x.ml.m room n = pe at *
  simp only [mlA] at HRT
  have HP := Lib.hid hp
  have HXC := Lib.hid hxc
  have HF := Lib.hid hF
  have HMS := Lib.hid hms
  have HW := Lib.hid hW
  have t0 : (x.wh == 0) = false := by rw [beq_eq_false_iff_ne]; omega
  have t1 : (x.wh == 1) = true := by rw [beq_iff_eq]; exact hx
  clear hF hms hW hx hxr hlen hxc x0 x1 x2 B0 hp
  simp only [acA] at *
  go_enter Try.func19, Try.ntmps19
  go_upto_region 7 with fail
  have HX0 := Lib.hid X.out.1
  have HX1 := Lib.hid X.out.2.1
  have HX2 := Lib.hid X.out.2.2.1
  have HB2 := Lib.hid X.out.2.2.2
  have hs2 : w.heap.size + 3 ≤ (((w.alloc (.cells #[.slice A n k, .int .i64 room, .int .i64 lost] 49)).alloc (.cells #[.int .i64 x.wh, .int .i64 x.pk, .int .i64 x.ml.m.link, .int .i64 x.ml.m.frm, .int .i64 x.ml.m.dst, .int .u32 x.ml.m.src, .slice x.ml.A x.ml.m.bs.length x.ml.c, .int .i64 x.ml.m.sent, .int .i64 x.nw, .int .i64 x.dl] 45)).alloc (.cells #[.slice none 0 0, .int .i64 0, .int .i64 0] 49)).heap.size := by simp
  clear X
  generalize ((w.alloc (.cells #[.slice A n k, .int .i64 room, .int .i64 lost] 49)).alloc (.cells #[.int .i64 x.wh, .int .i64 x.pk, .int .i64 x.ml.m.link, .int .i64 x.ml.m.frm, .int .i64 x.ml.m.dst, .int .u32 x.ml.m.src, .slice x.ml.A x.ml.m.bs.length x.ml.c, .int .i64 x.ml.m.sent, .int .i64 x.nw, .int .i64 x.dl] 45)).alloc (.cells #[.slice none 0 0, .int .i64 0, .int .i64 0] 49) = w2 at *
  have kx0 := (HX1.out).cell 0
  have kx1 := (HX1.out).cell 1
  have kx2 := (HX1.out).cell 2
  have kx3 := (HX1.out).cell 3
  have kx4 := (HX1.out).cell 4
  have kx5 := (HX1.out).cell 5
  have kx6 := (HX1.out).cell 6
  have kx7 := (HX1.out).cell 7
  have kx8 := (HX1.out).cell 8
  have kx9 := (HX1.out).cell 9
  simp only [List.getElem?_toArray, List.getElem?_cons_zero, List.getElem?_cons_succ] at kx0 kx1 kx2 kx3 kx4 kx5 kx6 kx7 kx8 kx9
  go_upto_region 8 with fail
  clear kx0 kx1 kx2 kx3 kx4 kx5 kx6 kx7 kx8 kx9
  have xb := Blk.new w2 33 #[.int .i64 x.ml.m.link, .int .i64 x.ml.m.frm, .int .i64 x.ml.m.dst, .int .u32 x.ml.m.src, .slice x.ml.A x.ml.m.bs.length x.ml.c, .int .i64 x.ml.m.sent]
  have xa := HX1.out.alloc (.cells #[.int .i64 x.ml.m.link, .int .i64 x.ml.m.frm, .int .i64 x.ml.m.dst, .int .u32 x.ml.m.src, .slice x.ml.A x.ml.m.bs.length x.ml.c, .int .i64 x.ml.m.sent] 33)
  have xr := HX0.out.alloc (.cells #[.int .i64 x.ml.m.link, .int .i64 x.ml.m.frm, .int .i64 x.ml.m.dst, .int .u32 x.ml.m.src, .slice x.ml.A x.ml.m.bs.length x.ml.c, .int .i64 x.ml.m.sent] 33)
  have xg := HX2.out.alloc (.cells #[.int .i64 x.ml.m.link, .int .i64 x.ml.m.frm, .int .i64 x.ml.m.dst, .int .u32 x.ml.m.src, .slice x.ml.A x.ml.m.bs.length x.ml.c, .int .i64 x.ml.m.sent] 33)
  have b2b : Below w2.heap.size w2 (w2.alloc (.cells #[.int .i64 x.ml.m.link, .int .i64 x.ml.m.frm, .int .i64 x.ml.m.dst, .int .u32 x.ml.m.src, .slice x.ml.A x.ml.m.bs.length x.ml.c, .int .i64 x.ml.m.sent] 33)) := balloc (Below.refl _ _) _
  have hs2b : (w2.alloc (.cells #[.int .i64 x.ml.m.link, .int .i64 x.ml.m.frm, .int .i64 x.ml.m.dst, .int .u32 x.ml.m.src, .slice x.ml.A x.ml.m.bs.length x.ml.c, .int .i64 x.ml.m.sent] 33)).heap.size = w2.heap.size + 1 := by simp
  have hsz2b : w2.heap.size + 1 ≤ (w2.alloc (.cells #[.int .i64 x.ml.m.link, .int .i64 x.ml.m.frm, .int .i64 x.ml.m.dst, .int .u32 x.ml.m.src, .slice x.ml.A x.ml.m.bs.length x.ml.c, .int .i64 x.ml.m.sent] 33)).heap.size := Nat.le_of_eq hs2b.symm
  clear hs2b
  generalize w2.alloc (.cells #[.int .i64 x.ml.m.link, .int .i64 x.ml.m.frm, .int .i64 x.ml.m.dst, .int .u32 x.ml.m.src, .slice x.ml.A x.ml.m.bs.length x.ml.c, .int .i64 x.ml.m.sent] 33) = w2b at *
  have k4 := xb.cell 4
  have k4' := (xb.alloc (.cells #[] 5)).cell 4
  simp only [List.getElem?_toArray, List.getElem?_cons_zero, List.getElem?_cons_succ] at k4 k4'
  have HON := Lib.hid (show (w2b.alloc (.cells #[] 5)).ownsRow w2b.heap.size 5 1 (.slice (some ⟨w2b.heap.size, 0, none⟩) 0 0) 0 [] from World.ownsRow_lit w2b #[] 0 (Nat.le_refl _) (by simp [maxLen]) (by simp))
  have HB2B := Lib.hid (bnext HB2.out b2b)
  have HXR2 := Lib.hid (HXR.out _ (balloc HB2B.out (.cells #[] 5))).rd
  have XS := Lib.hid (And.intro xb (And.intro xa (And.intro xr xg)))
  clear xb xa xr xg
  generalize hm : x.ml.m.bs.length = m at *
  have HM := Lib.hid hm
  clear hm
  go_upto_region 9 with (at_builtin; refine wpList_append_rd rfl (.tmp 42) (.tmp 44) _ rfl w2b.heap.size 5 i0 _ 1 1 Try.underlying31 hi0 hz0 hz1 hz2 rfl (by omega) (.slice (some ⟨w2b.heap.size, 0, none⟩) 0 0) 0 [] rfl HON.out m x.ml.c (x.ml.m.bs.map b8) rfl (by rw [List.length_map, HM.out]; omega) HXR2.out (b8_one _) (by simp only [maxLen]; omega) (by omega) (by simp) ?_; intro v1 w2c ho1 hg1 ha1; simp only [Nat.zero_add, List.nil_append] at ho1; obtain ⟨A1, c1, rfl, q1, q2, q3, q4⟩ := own_row ho1; obtain ⟨qs, ql⟩ := own_soft ho1; have fg : Fr (fun k => k ≠ w2b.heap.size) (w2b.alloc (.cells #[] 5)) w2c := Fr.grown hg1 (fun b hb e => hb (by simp [Value.ownBlock] at e; omega)); have xbc := fg.blk (XS.out.1.alloc _) (by omega); have k4c := xbc.cell 4; have f4c := xbc.frozen 4; simp only [List.getElem?_toArray, List.getElem?_cons_zero, List.getElem?_cons_succ] at k4c)
  have ye := xbc.set 4 (.slice A1 m c1)
  simp only [List.setIfInBounds_toArray, List.set_cons_zero, List.set_cons_succ] at ye
  have hsB := HB2B.out.size
  have fw : Fr (fun k => k < w2b.heap.size ∧ k ≠ w2.heap.size) w2b (w2c.setCell ⟨w2.heap.size, 4, none⟩ (.slice A1 m c1)) := (((Fr.alloc _).trans (fg.mono (fun b _ hb => by omega))).trans (Fr.set (a := ⟨w2.heap.size, 4, none⟩) (fun b hb => hb.2) _))
  have ya := fw.blk XS.out.2.1 ⟨XS.out.2.1.lt, by omega⟩
  have yr := fw.blk XS.out.2.2.1 ⟨XS.out.2.2.1.lt, by omega⟩
  have yg := fw.blk XS.out.2.2.2 ⟨XS.out.2.2.2.lt, by omega⟩
  have b2e : Below w.heap.size w (w2c.setCell ⟨w2.heap.size, 4, none⟩ (.slice A1 m c1)) := HB2B.out.trans (fw.below (B := w.heap.size) (by omega) (fun b hb => ⟨by omega, by omega⟩))
  have re : Rd (w2c.setCell ⟨w2.heap.size, 4, none⟩ (.slice A1 m c1)) (w2c.setCell ⟨w2.heap.size, 4, none⟩ (.slice A1 m c1)).heap.size A1 (x.ml.m.bs.map b8) := by
    rw [World.size_setCell]
    exact q3.off (fun a e => by have := q4 a e; omega) _
  have se : Soft (w2c.setCell ⟨w2.heap.size, 4, none⟩ (.slice A1 m c1)) A1 := qs.set _ _
  have le : ∀ a, A1 = some a → a.block < (w2c.setCell ⟨w2.heap.size, 4, none⟩ (.slice A1 m c1)).heap.size := fun a e => by rw [World.size_setCell]; exact ql a e
  have hse : w2b.heap.size ≤ (w2c.setCell ⟨w2.heap.size, 4, none⟩ (.slice A1 m c1)).heap.size := fw.2.2.2.1
  clear fw fg xbc hg1 ha1 ho1 q1 q2 q3 qs ql k4 k4' k4c f4c hsB
  generalize w2c.setCell ⟨w2.heap.size, 4, none⟩ (.slice A1 m c1) = w2e at *
  obtain ⟨d0, d1, d2⟩ := yr.three
  have kx0 := (ya).cell 0
  have kx1 := (ya).cell 1
  have kx2 := (ya).cell 2
  have kx3 := (ya).cell 3
  have kx4 := (ya).cell 4
  have kx5 := (ya).cell 5
  have kx6 := (ya).cell 6
  have kx7 := (ya).cell 7
  have kx8 := (ya).cell 8
  have kx9 := (ya).cell 9
  simp only [List.getElem?_toArray, List.getElem?_cons_zero, List.getElem?_cons_succ] at kx0 kx1 kx2 kx3 kx4 kx5 kx6 kx7 kx8 kx9
  go_wp2_with fail
  refine (HRT.out _ b2e).mono ?_
  rintro e w3 ⟨A', n', c', ws', rfl, hW3, hL3, hb3⟩
  clear d0 d1 d2
  clear kx0 kx1 kx2 kx3 kx4 kx5 kx6 kx7 kx8 kx9
  go_upto_region 10 with fail
  have hs3 := hb3.size
  have xo := Blk.new w3 49 #[.slice A' n' c', .int .i64 room, .int .i64 lo]
  have ym := (ye.below hb3 ye.lt).alloc (.cells #[.slice A' n' c', .int .i64 room, .int .i64 lo] 49)
  have yg3 := (yg.below hb3 yg.lt).alloc (.cells #[.slice A' n' c', .int .i64 room, .int .i64 lo] 49)
  have b34 : Below w3.heap.size w3 (w3.alloc (.cells #[.slice A' n' c', .int .i64 room, .int .i64 lo] 49)) := balloc (Below.refl _ _) _
  have r4 := (re.below (bnext hb3 b34)).more (bnext hb3 b34).size
  have s4 := se.fr (p := fun _ => True) (Fr.of_below (bnext hb3 b34)) (fun a e => ⟨le a e, trivial⟩)
  have hs4 := b34.size
  generalize w3.alloc (.cells #[.slice A' n' c', .int .i64 room, .int .i64 lo] 49) = w4 at *
  have B4 : Below w.heap.size w w4 := bnext (bnext b2e hb3) b34
  obtain ⟨e0, e1, e2, e3, e4, e5⟩ := ym.six
  go_wp2_with fail
  refine (HPT.out _ A1 c1 B4 r4).mono ?_
  rintro e w5 ⟨v', rs', rfl, hG, hL5, hpr⟩
  clear e0 e1 e2 e3 e4 e5
  obtain ⟨F5, f5, hv5⟩ := id hG
  have hs5 := f5.2.2.2.1
  have hKn : ∀ b, w.heap.size ≤ b → Kp g v b := fun b hb => HGO.out b (.inr hb)
  have hK4 : ∀ a, A1 = some a → Kp g v a.block := fun a e => hKn _ (by have := q4 a e; omega)
  have XN := Lib.hid (f5.blk ym (hKn _ (by omega)))
  have XG := Lib.hid (f5.blk yg3 (hKn _ (by omega)))
  have XO := Lib.hid (f5.blk xo (hKn _ (by omega)))
  have HI0 := Lib.hid (show IncA A1 m w5 w5 from by
    have h := IncA.start (f5.rd r4 hK4) (s4.fr f5 (fun a e => ⟨by have := le a e; omega, hK4 a e⟩))
    rw [HM.out] at h
    exact h)
  have HA := Lib.hid (And.intro q4 le)
  have HFIN := Lib.hid (And.intro b2e (And.intro hb3 (And.intro b34 (And.intro hG (And.intro hpr (And.intro hW3 (hL5.trans (HLL.out.trans hL3.symm))))))))
  clear hK4 hKn F5 f5 hv5 xo ym yg3 r4 s4 ye ya yr yg b2e re se le q4 hW3 hL3 hL5 hpr hG hb3 b34 B4 b2b
  go_wp2_with fail
  go_loopw [13] (fun i wr => ∃ c : Nat, c ≤ m ∧ i = .int .i64 c ∧ IncA A1 m w5 wr) (fun i _ => m - (intOf i).toNat)
  case atStart => exact ⟨0, by omega, rfl, HI0.out⟩
  case round =>
    obtain ⟨c, hc, rfl, hI⟩ := hrel
    have HI := Lib.hid hI
    have hfr : ∀ q : Nat, (∀ a, A1 = some a → q ≠ a.block) → (fun k => ∀ a, A1 = some a → k ≠ a.block) q := fun q h => h
    have xnr := hI.1.blk XN.out (hfr _ (fun a e => by have := HA.out.1 a e; omega))
    have xgr := hI.1.blk XG.out (hfr _ (fun a e => by have := HA.out.1 a e; omega))
    have xor := hI.1.blk XO.out (hfr _ (fun a e => by have := HA.out.2 a e; omega))
    clear hfr
    by_cases hlt : c < m
    · obtain ⟨b, off, z, he, hz, hf⟩ := hI.at hlt
      subst he
      have hi1 : (c : Int) < (m : Int) := by omega
      have n4 := xnr.cell 4
      simp only [List.getElem?_toArray, List.getElem?_cons_zero, List.getElem?_cons_succ] at n4
      clear hI xnr xgr xor
      go_wp2_with fail
      go_roundw
      case rel => exact ⟨c + 1, by omega, by go_num, HI.out.step hlt _⟩
      case measure => simp [intOf]; omega
    · obtain rfl : c = m := by omega
      have n4 := xnr.cell 4
      simp only [List.getElem?_toArray, List.getElem?_cons_zero, List.getElem?_cons_succ] at n4
      clear hI
      go_upto_region 15 with fail
      obtain ⟨z0, z1, z2⟩ := xgr.three
      obtain ⟨y0, y1, y2⟩ := xgr.ice3
      obtain ⟨d0, d1, d2⟩ := xor.three
      have S0 : C3 w3.heap.size (.slice A' n' c') (.int .i64 room) (.int .i64 lo) wr.drew := ⟨d0, d1, d2⟩
      have Q3 := Lib.hid (show w.heap.size + 1 + 1 ≠ w3.heap.size by omega)
      go_region_held3 (fun W => C3 w3.heap.size (.slice A' n' c') (.int .i64 room) (.int .i64 lo) W) (first | exact S0 | exact c3_far _ _ _ S0 Q3.out)
        (first
        | (go_at_call 10; refine (num19_any _ _).mono ?_; rintro e w' ⟨rfl, rfl⟩))
      go_wp2
      refine bodyPost_ret (v := .tuple #[.pointer (some ⟨g, 0, none⟩), .agg #[.slice A' n' c', .int .i64 room, .int .i64 lo], .bool true]) (by simp [results, Try.results19, go_sem, z0, z1, z2]) rfl ?_
      obtain ⟨g1, g2, g3, g4, g5, g6, g7⟩ := HFIN.out
      refine act_fin HF.out g1 g2 g3 g4 g5 ?_ g6 (fun b hb => HP.out b hb) g7
      have fI : Fr (fun q => q < w.heap.size ∨ (w2e.heap.size ≤ q ∧ q < w5.heap.size)) w5 wr := HI.out.1.mono (fun b _ hb a e => by have := HA.out.1 a e; have := HA.out.2 a e; omega)
      exact (((fI.trans (Fr.drewN 1)).putG (by omega) 0 _).putG (by omega) 1 _).putG (by omega) 2 _

set_option maxHeartbeats 4000000 in
theorem act_put2 {n0 g room lost : Nat} {v : Value} {rs ws : List Ml} {w : World} {p : Nat → Prop} {A : Option Addr} {n k : Nat} (x : Ac) (hx : x.wh = 2) (hxr : RdP w p x.ml.A (x.ml.m.bs.map b8)) (hxl : x.ml.m.bs.length ≤ 60) (hxc : x.ml.m.bs.length ≤ x.ml.c ∧ x.ml.c ≤ maxLen) (hF : Fl w n0 g v rs room lost) (hn0 : n0 ≤ w.heap.size) (hms : msL rs = msL ws) (hW : Want w p A n k ws) (hp : ∀ b, p b → Kp g v b) :
    Calls Try.prog 19 #[.pointer (some ⟨g, 0, none⟩), .agg #[.slice A n k, .int .i64 room, .int .i64 lost], .agg (acA x)] w (ActOk w n0 g v rs room p) := by
  have x0 := ((Blk.new w 49 #[.slice A n k, .int .i64 room, .int .i64 lost]).alloc (.cells (acA x) 45)).alloc (.cells #[.slice none 0 0, .int .i64 0, .int .i64 0] 49)
  have x1 := (Blk.new (w.alloc (.cells #[.slice A n k, .int .i64 room, .int .i64 lost] 49)) 45 (acA x)).alloc (.cells #[.slice none 0 0, .int .i64 0, .int .i64 0] 49)
  have x2 := Blk.new ((w.alloc (.cells #[.slice A n k, .int .i64 room, .int .i64 lost] 49)).alloc (.cells (acA x) 45)) 49 #[.slice none 0 0, .int .i64 0, .int .i64 0]
  simp only [World.size_alloc] at x1 x2
  have B0 : Below w.heap.size w (((w.alloc (.cells #[.slice A n k, .int .i64 room, .int .i64 lost] 49)).alloc (.cells (acA x) 45)).alloc (.cells #[.slice none 0 0, .int .i64 0, .int .i64 0] 49)) := balloc (balloc (balloc (Below.refl _ _) _) _) _
  have X := Lib.hid (And.intro x0 (And.intro x1 (And.intro x2 B0)))
  have hn512 : n ≤ 512 := by have := hF.len; have := hF.room0.2; have := hW.1; have e : (msL rs).length = (msL ws).length := by rw [hms]
                             rw [msL_len, msL_len] at e; omega
  have gl := hF.blk.lt
  have HGO := Lib.hid (show ∀ b, Or' p w b → Kp g v b from fun b hb => hb.elim (fun h => hp b h.1) (fun h => ⟨by omega, fun e => by have := hF.row_lt b e; omega⟩))
  obtain ⟨i0, hi0, hz0, hz1, hz2⟩ := info_parts u8_info
  have hlen : rs.length = n := by have e : (msL rs).length = (msL ws).length := by rw [hms]
                                  rw [msL_len, msL_len, hW.1] at e; exact e
  have HXR := Lib.hid (fun W (hb : Below w.heap.size w W) => (show RdP W (fun b => p b ∧ b < w.heap.size) x.ml.A (x.ml.m.bs.map b8) from hxr.fr (r := fun _ => True) (Fr.of_below hb) (fun _ _ _ => trivial) (fun b hb hl => ⟨hb, hl⟩)))
  have HRT := Lib.hid (fun W (hb : Below w.heap.size w W) => refputg_any (room := room) (lost := lost) x.ml (hW.p1 hb) hn512 hF.lost0 (HXR.out W hb))
  have HPT := Lib.hid (fun W A1 c1 (hb : Below w.heap.size w W) (hr : Rd W W.heap.size A1 (x.ml.m.bs.map b8)) => by
    have h := putg_any ⟨x.ml.m, A1, c1⟩ (hF.below hb) (Nat.le_trans hn0 hb.size) hr (by show x.ml.m.bs.length ≤ _; omega)
    simp only [mlA, hlen] at h
    exact h)
  have HLL := Lib.hid (show putL x.ml.m room (msL rs) = putL x.ml.m room (msL ws) by rw [hms])
  generalize putLost x.ml.m room n lost = lo at *
  generalize errPut x.ml.m room n = pe at *
  simp only [mlA] at HRT
  have HP := Lib.hid hp
  have HXC := Lib.hid hxc
  have HF := Lib.hid hF
  have HMS := Lib.hid hms
  have HW := Lib.hid hW
  have t0 : (x.wh == 0) = false := by rw [beq_eq_false_iff_ne]; omega
  have t1 : (x.wh == 1) = false := by rw [beq_eq_false_iff_ne]; omega
  have t2 : (x.wh == 2) = true := by rw [beq_iff_eq]; exact hx
  clear hF hms hW hx hxr hlen hxc x0 x1 x2 B0 hp
  simp only [acA] at *
  go_enter Try.func19, Try.ntmps19
  go_upto_region 7 with fail
  have HX0 := Lib.hid X.out.1
  have HX1 := Lib.hid X.out.2.1
  have HX2 := Lib.hid X.out.2.2.1
  have HB2 := Lib.hid X.out.2.2.2
  have hs2 : w.heap.size + 3 ≤ (((w.alloc (.cells #[.slice A n k, .int .i64 room, .int .i64 lost] 49)).alloc (.cells #[.int .i64 x.wh, .int .i64 x.pk, .int .i64 x.ml.m.link, .int .i64 x.ml.m.frm, .int .i64 x.ml.m.dst, .int .u32 x.ml.m.src, .slice x.ml.A x.ml.m.bs.length x.ml.c, .int .i64 x.ml.m.sent, .int .i64 x.nw, .int .i64 x.dl] 45)).alloc (.cells #[.slice none 0 0, .int .i64 0, .int .i64 0] 49)).heap.size := by simp
  clear X
  generalize ((w.alloc (.cells #[.slice A n k, .int .i64 room, .int .i64 lost] 49)).alloc (.cells #[.int .i64 x.wh, .int .i64 x.pk, .int .i64 x.ml.m.link, .int .i64 x.ml.m.frm, .int .i64 x.ml.m.dst, .int .u32 x.ml.m.src, .slice x.ml.A x.ml.m.bs.length x.ml.c, .int .i64 x.ml.m.sent, .int .i64 x.nw, .int .i64 x.dl] 45)).alloc (.cells #[.slice none 0 0, .int .i64 0, .int .i64 0] 49) = w2 at *
  have kx0 := (HX1.out).cell 0
  have kx1 := (HX1.out).cell 1
  have kx2 := (HX1.out).cell 2
  have kx3 := (HX1.out).cell 3
  have kx4 := (HX1.out).cell 4
  have kx5 := (HX1.out).cell 5
  have kx6 := (HX1.out).cell 6
  have kx7 := (HX1.out).cell 7
  have kx8 := (HX1.out).cell 8
  have kx9 := (HX1.out).cell 9
  simp only [List.getElem?_toArray, List.getElem?_cons_zero, List.getElem?_cons_succ] at kx0 kx1 kx2 kx3 kx4 kx5 kx6 kx7 kx8 kx9
  go_upto_region 8 with fail
  clear kx0 kx1 kx2 kx3 kx4 kx5 kx6 kx7 kx8 kx9
  have xb := Blk.new w2 33 #[.int .i64 x.ml.m.link, .int .i64 x.ml.m.frm, .int .i64 x.ml.m.dst, .int .u32 x.ml.m.src, .slice x.ml.A x.ml.m.bs.length x.ml.c, .int .i64 x.ml.m.sent]
  have xa := HX1.out.alloc (.cells #[.int .i64 x.ml.m.link, .int .i64 x.ml.m.frm, .int .i64 x.ml.m.dst, .int .u32 x.ml.m.src, .slice x.ml.A x.ml.m.bs.length x.ml.c, .int .i64 x.ml.m.sent] 33)
  have xr := HX0.out.alloc (.cells #[.int .i64 x.ml.m.link, .int .i64 x.ml.m.frm, .int .i64 x.ml.m.dst, .int .u32 x.ml.m.src, .slice x.ml.A x.ml.m.bs.length x.ml.c, .int .i64 x.ml.m.sent] 33)
  have xg := HX2.out.alloc (.cells #[.int .i64 x.ml.m.link, .int .i64 x.ml.m.frm, .int .i64 x.ml.m.dst, .int .u32 x.ml.m.src, .slice x.ml.A x.ml.m.bs.length x.ml.c, .int .i64 x.ml.m.sent] 33)
  have b2b : Below w2.heap.size w2 (w2.alloc (.cells #[.int .i64 x.ml.m.link, .int .i64 x.ml.m.frm, .int .i64 x.ml.m.dst, .int .u32 x.ml.m.src, .slice x.ml.A x.ml.m.bs.length x.ml.c, .int .i64 x.ml.m.sent] 33)) := balloc (Below.refl _ _) _
  have hs2b : (w2.alloc (.cells #[.int .i64 x.ml.m.link, .int .i64 x.ml.m.frm, .int .i64 x.ml.m.dst, .int .u32 x.ml.m.src, .slice x.ml.A x.ml.m.bs.length x.ml.c, .int .i64 x.ml.m.sent] 33)).heap.size = w2.heap.size + 1 := by simp
  have hsz2b : w2.heap.size + 1 ≤ (w2.alloc (.cells #[.int .i64 x.ml.m.link, .int .i64 x.ml.m.frm, .int .i64 x.ml.m.dst, .int .u32 x.ml.m.src, .slice x.ml.A x.ml.m.bs.length x.ml.c, .int .i64 x.ml.m.sent] 33)).heap.size := Nat.le_of_eq hs2b.symm
  clear hs2b
  generalize w2.alloc (.cells #[.int .i64 x.ml.m.link, .int .i64 x.ml.m.frm, .int .i64 x.ml.m.dst, .int .u32 x.ml.m.src, .slice x.ml.A x.ml.m.bs.length x.ml.c, .int .i64 x.ml.m.sent] 33) = w2b at *
  have k4 := xb.cell 4
  have k4' := (xb.alloc (.cells #[] 5)).cell 4
  simp only [List.getElem?_toArray, List.getElem?_cons_zero, List.getElem?_cons_succ] at k4 k4'
  have HON := Lib.hid (show (w2b.alloc (.cells #[] 5)).ownsRow w2b.heap.size 5 1 (.slice (some ⟨w2b.heap.size, 0, none⟩) 0 0) 0 [] from World.ownsRow_lit w2b #[] 0 (Nat.le_refl _) (by simp [maxLen]) (by simp))
  have HB2B := Lib.hid (bnext HB2.out b2b)
  have HXR2 := Lib.hid (HXR.out _ (balloc HB2B.out (.cells #[] 5))).rd
  have XS := Lib.hid (And.intro xb (And.intro xa (And.intro xr xg)))
  clear xb xa xr xg
  generalize hm : x.ml.m.bs.length = m at *
  have HM := Lib.hid hm
  clear hm
  go_upto_region 9 with (at_builtin; refine wpList_append_rd rfl (.tmp 42) (.tmp 44) _ rfl w2b.heap.size 5 i0 _ 1 1 Try.underlying31 hi0 hz0 hz1 hz2 rfl (by omega) (.slice (some ⟨w2b.heap.size, 0, none⟩) 0 0) 0 [] rfl HON.out m x.ml.c (x.ml.m.bs.map b8) rfl (by rw [List.length_map, HM.out]; omega) HXR2.out (b8_one _) (by simp only [maxLen]; omega) (by omega) (by simp) ?_; intro v1 w2c ho1 hg1 ha1; simp only [Nat.zero_add, List.nil_append] at ho1; obtain ⟨A1, c1, rfl, q1, q2, q3, q4⟩ := own_row ho1; obtain ⟨qs, ql⟩ := own_soft ho1; have fg : Fr (fun k => k ≠ w2b.heap.size) (w2b.alloc (.cells #[] 5)) w2c := Fr.grown hg1 (fun b hb e => hb (by simp [Value.ownBlock] at e; omega)); have xbc := fg.blk (XS.out.1.alloc _) (by omega); have k4c := xbc.cell 4; have f4c := xbc.frozen 4; simp only [List.getElem?_toArray, List.getElem?_cons_zero, List.getElem?_cons_succ] at k4c)
  have ye := xbc.set 4 (.slice A1 m c1)
  simp only [List.setIfInBounds_toArray, List.set_cons_zero, List.set_cons_succ] at ye
  have hsB := HB2B.out.size
  have fw : Fr (fun k => k < w2b.heap.size ∧ k ≠ w2.heap.size) w2b (w2c.setCell ⟨w2.heap.size, 4, none⟩ (.slice A1 m c1)) := (((Fr.alloc _).trans (fg.mono (fun b _ hb => by omega))).trans (Fr.set (a := ⟨w2.heap.size, 4, none⟩) (fun b hb => hb.2) _))
  have ya := fw.blk XS.out.2.1 ⟨XS.out.2.1.lt, by omega⟩
  have yr := fw.blk XS.out.2.2.1 ⟨XS.out.2.2.1.lt, by omega⟩
  have yg := fw.blk XS.out.2.2.2 ⟨XS.out.2.2.2.lt, by omega⟩
  have b2e : Below w.heap.size w (w2c.setCell ⟨w2.heap.size, 4, none⟩ (.slice A1 m c1)) := HB2B.out.trans (fw.below (B := w.heap.size) (by omega) (fun b hb => ⟨by omega, by omega⟩))
  have re : Rd (w2c.setCell ⟨w2.heap.size, 4, none⟩ (.slice A1 m c1)) (w2c.setCell ⟨w2.heap.size, 4, none⟩ (.slice A1 m c1)).heap.size A1 (x.ml.m.bs.map b8) := by
    rw [World.size_setCell]
    exact q3.off (fun a e => by have := q4 a e; omega) _
  have se : Soft (w2c.setCell ⟨w2.heap.size, 4, none⟩ (.slice A1 m c1)) A1 := qs.set _ _
  have le : ∀ a, A1 = some a → a.block < (w2c.setCell ⟨w2.heap.size, 4, none⟩ (.slice A1 m c1)).heap.size := fun a e => by rw [World.size_setCell]; exact ql a e
  have hse : w2b.heap.size ≤ (w2c.setCell ⟨w2.heap.size, 4, none⟩ (.slice A1 m c1)).heap.size := fw.2.2.2.1
  clear fw fg xbc hg1 ha1 ho1 q1 q2 q3 qs ql k4 k4' k4c f4c hsB
  generalize w2c.setCell ⟨w2.heap.size, 4, none⟩ (.slice A1 m c1) = w2e at *
  obtain ⟨d0, d1, d2⟩ := yr.three
  have kx0 := (ya).cell 0
  have kx1 := (ya).cell 1
  have kx2 := (ya).cell 2
  have kx3 := (ya).cell 3
  have kx4 := (ya).cell 4
  have kx5 := (ya).cell 5
  have kx6 := (ya).cell 6
  have kx7 := (ya).cell 7
  have kx8 := (ya).cell 8
  have kx9 := (ya).cell 9
  simp only [List.getElem?_toArray, List.getElem?_cons_zero, List.getElem?_cons_succ] at kx0 kx1 kx2 kx3 kx4 kx5 kx6 kx7 kx8 kx9
  go_wp2_with fail
  refine (HRT.out _ b2e).mono ?_
  rintro e w3 ⟨A', n', c', ws', rfl, hW3, hL3, hb3⟩
  clear d0 d1 d2
  clear kx0 kx1 kx2 kx3 kx4 kx5 kx6 kx7 kx8 kx9
  go_upto_region 10 with fail
  have hs3 := hb3.size
  have xo := Blk.new w3 49 #[.slice A' n' c', .int .i64 room, .int .i64 lo]
  have ym := (ye.below hb3 ye.lt).alloc (.cells #[.slice A' n' c', .int .i64 room, .int .i64 lo] 49)
  have yg3 := (yg.below hb3 yg.lt).alloc (.cells #[.slice A' n' c', .int .i64 room, .int .i64 lo] 49)
  have b34 : Below w3.heap.size w3 (w3.alloc (.cells #[.slice A' n' c', .int .i64 room, .int .i64 lo] 49)) := balloc (Below.refl _ _) _
  have r4 := (re.below (bnext hb3 b34)).more (bnext hb3 b34).size
  have s4 := se.fr (p := fun _ => True) (Fr.of_below (bnext hb3 b34)) (fun a e => ⟨le a e, trivial⟩)
  have hs4 := b34.size
  generalize w3.alloc (.cells #[.slice A' n' c', .int .i64 room, .int .i64 lo] 49) = w4 at *
  have B4 : Below w.heap.size w w4 := bnext (bnext b2e hb3) b34
  obtain ⟨e0, e1, e2, e3, e4, e5⟩ := ym.six
  go_wp2_with fail
  refine (HPT.out _ A1 c1 B4 r4).mono ?_
  rintro e w5 ⟨v', rs', rfl, hG, hL5, hpr⟩
  clear e0 e1 e2 e3 e4 e5
  obtain ⟨F5, f5, hv5⟩ := id hG
  have hs5 := f5.2.2.2.1
  have hKn : ∀ b, w.heap.size ≤ b → Kp g v b := fun b hb => HGO.out b (.inr hb)
  have hK4 : ∀ a, A1 = some a → Kp g v a.block := fun a e => hKn _ (by have := q4 a e; omega)
  have XN := Lib.hid (f5.blk ym (hKn _ (by omega)))
  have XG := Lib.hid (f5.blk yg3 (hKn _ (by omega)))
  have XO := Lib.hid (f5.blk xo (hKn _ (by omega)))
  have HI0 := Lib.hid (show IncA A1 m w5 w5 from by
    have h := IncA.start (f5.rd r4 hK4) (s4.fr f5 (fun a e => ⟨by have := le a e; omega, hK4 a e⟩))
    rw [HM.out] at h
    exact h)
  have HA := Lib.hid (And.intro q4 le)
  have HFIN := Lib.hid (And.intro b2e (And.intro hb3 (And.intro b34 (And.intro hG (And.intro hpr (And.intro hW3 (hL5.trans (HLL.out.trans hL3.symm))))))))
  clear hK4 hKn F5 f5 hv5 xo ym yg3 r4 s4 ye ya yr yg b2e re se le q4 hW3 hL3 hL5 hpr hG hb3 b34 B4 b2b
  go_wp2_with fail
  go_loopw [13] (fun i wr => ∃ c : Nat, c ≤ m ∧ i = .int .i64 c ∧ IncA A1 m w5 wr) (fun i _ => m - (intOf i).toNat)
  case atStart => exact ⟨0, by omega, rfl, HI0.out⟩
  case round =>
    obtain ⟨c, hc, rfl, hI⟩ := hrel
    have HI := Lib.hid hI
    have hfr : ∀ q : Nat, (∀ a, A1 = some a → q ≠ a.block) → (fun k => ∀ a, A1 = some a → k ≠ a.block) q := fun q h => h
    have xnr := hI.1.blk XN.out (hfr _ (fun a e => by have := HA.out.1 a e; omega))
    have xgr := hI.1.blk XG.out (hfr _ (fun a e => by have := HA.out.1 a e; omega))
    have xor := hI.1.blk XO.out (hfr _ (fun a e => by have := HA.out.2 a e; omega))
    clear hfr
    by_cases hlt : c < m
    · obtain ⟨b, off, z, he, hz, hf⟩ := hI.at hlt
      subst he
      have hi1 : (c : Int) < (m : Int) := by omega
      have n4 := xnr.cell 4
      simp only [List.getElem?_toArray, List.getElem?_cons_zero, List.getElem?_cons_succ] at n4
      clear hI xnr xgr xor
      go_wp2_with fail
      go_roundw
      case rel => exact ⟨c + 1, by omega, by go_num, HI.out.step hlt _⟩
      case measure => simp [intOf]; omega
    · obtain rfl : c = m := by omega
      have n4 := xnr.cell 4
      simp only [List.getElem?_toArray, List.getElem?_cons_zero, List.getElem?_cons_succ] at n4
      clear hI
      go_upto_region 15 with fail
      obtain ⟨z0, z1, z2⟩ := xgr.three
      obtain ⟨y0, y1, y2⟩ := xgr.ice3
      obtain ⟨d0, d1, d2⟩ := xor.three
      have S0 : C3 w3.heap.size (.slice A' n' c') (.int .i64 room) (.int .i64 lo) wr.drew := ⟨d0, d1, d2⟩
      have Q3 := Lib.hid (show w.heap.size + 1 + 1 ≠ w3.heap.size by omega)
      go_region_held3 (fun W => C3 w3.heap.size (.slice A' n' c') (.int .i64 room) (.int .i64 lo) W) (first | exact S0 | exact c3_far _ _ _ S0 Q3.out)
        (first
        | (go_at_call 10; refine (num19_any _ _).mono ?_; rintro e w' ⟨rfl, rfl⟩))
      go_wp2
      refine bodyPost_ret (v := .tuple #[.pointer (some ⟨g, 0, none⟩), .agg #[.slice A' n' c', .int .i64 room, .int .i64 lo], .bool true]) (by simp [results, Try.results19, go_sem, z0, z1, z2]) rfl ?_
      obtain ⟨g1, g2, g3, g4, g5, g6, g7⟩ := HFIN.out
      refine act_fin HF.out g1 g2 g3 g4 g5 ?_ g6 (fun b hb => HP.out b hb) g7
      have fI : Fr (fun q => q < w.heap.size ∨ (w2e.heap.size ≤ q ∧ q < w5.heap.size)) w5 wr := HI.out.1.mono (fun b _ hb a e => by have := HA.out.1 a e; have := HA.out.2 a e; omega)
      exact (((fI.trans (Fr.drewN 1)).putG (by omega) 0 _).putG (by omega) 1 _).putG (by omega) 2 _

set_option maxHeartbeats 4000000 in
theorem act_put3 {n0 g room lost : Nat} {v : Value} {rs ws : List Ml} {w : World} {p : Nat → Prop} {A : Option Addr} {n k : Nat} (x : Ac) (hx : x.wh = 3) (hxr : RdP w p x.ml.A (x.ml.m.bs.map b8)) (hxl : x.ml.m.bs.length ≤ 60) (hxc : x.ml.m.bs.length ≤ x.ml.c ∧ x.ml.c ≤ maxLen) (hF : Fl w n0 g v rs room lost) (hn0 : n0 ≤ w.heap.size) (hms : msL rs = msL ws) (hW : Want w p A n k ws) (hp : ∀ b, p b → Kp g v b) :
    Calls Try.prog 19 #[.pointer (some ⟨g, 0, none⟩), .agg #[.slice A n k, .int .i64 room, .int .i64 lost], .agg (acA x)] w (ActOk w n0 g v rs room p) := by
  have x0 := ((Blk.new w 49 #[.slice A n k, .int .i64 room, .int .i64 lost]).alloc (.cells (acA x) 45)).alloc (.cells #[.slice none 0 0, .int .i64 0, .int .i64 0] 49)
  have x1 := (Blk.new (w.alloc (.cells #[.slice A n k, .int .i64 room, .int .i64 lost] 49)) 45 (acA x)).alloc (.cells #[.slice none 0 0, .int .i64 0, .int .i64 0] 49)
  have x2 := Blk.new ((w.alloc (.cells #[.slice A n k, .int .i64 room, .int .i64 lost] 49)).alloc (.cells (acA x) 45)) 49 #[.slice none 0 0, .int .i64 0, .int .i64 0]
  simp only [World.size_alloc] at x1 x2
  have B0 : Below w.heap.size w (((w.alloc (.cells #[.slice A n k, .int .i64 room, .int .i64 lost] 49)).alloc (.cells (acA x) 45)).alloc (.cells #[.slice none 0 0, .int .i64 0, .int .i64 0] 49)) := balloc (balloc (balloc (Below.refl _ _) _) _) _
  have X := Lib.hid (And.intro x0 (And.intro x1 (And.intro x2 B0)))
  have hn512 : n ≤ 512 := by have := hF.len; have := hF.room0.2; have := hW.1; have e : (msL rs).length = (msL ws).length := by rw [hms]
                             rw [msL_len, msL_len] at e; omega
  have gl := hF.blk.lt
  have HGO := Lib.hid (show ∀ b, Or' p w b → Kp g v b from fun b hb => hb.elim (fun h => hp b h.1) (fun h => ⟨by omega, fun e => by have := hF.row_lt b e; omega⟩))
  obtain ⟨i0, hi0, hz0, hz1, hz2⟩ := info_parts u8_info
  have hlen : rs.length = n := by have e : (msL rs).length = (msL ws).length := by rw [hms]
                                  rw [msL_len, msL_len, hW.1] at e; exact e
  have HXR := Lib.hid (fun W (hb : Below w.heap.size w W) => (show RdP W (fun b => p b ∧ b < w.heap.size) x.ml.A (x.ml.m.bs.map b8) from hxr.fr (r := fun _ => True) (Fr.of_below hb) (fun _ _ _ => trivial) (fun b hb hl => ⟨hb, hl⟩)))
  have HRT := Lib.hid (fun W (hb : Below w.heap.size w W) => refputg_any (room := room) (lost := lost) x.ml (hW.p1 hb) hn512 hF.lost0 (HXR.out W hb))
  have HPT := Lib.hid (fun W A1 c1 (hb : Below w.heap.size w W) (hr : Rd W W.heap.size A1 (x.ml.m.bs.map b8)) => by
    have h := putg_any ⟨x.ml.m, A1, c1⟩ (hF.below hb) (Nat.le_trans hn0 hb.size) hr (by show x.ml.m.bs.length ≤ _; omega)
    simp only [mlA, hlen] at h
    exact h)
  have HLL := Lib.hid (show putL x.ml.m room (msL rs) = putL x.ml.m room (msL ws) by rw [hms])
  generalize putLost x.ml.m room n lost = lo at *
  generalize errPut x.ml.m room n = pe at *
  simp only [mlA] at HRT
  have HP := Lib.hid hp
  have HXC := Lib.hid hxc
  have HF := Lib.hid hF
  have HMS := Lib.hid hms
  have HW := Lib.hid hW
  have t0 : (x.wh == 0) = false := by rw [beq_eq_false_iff_ne]; omega
  have t1 : (x.wh == 1) = false := by rw [beq_eq_false_iff_ne]; omega
  have t2 : (x.wh == 2) = false := by rw [beq_eq_false_iff_ne]; omega
  have t3 : (x.wh == 3) = true := by rw [beq_iff_eq]; exact hx
  clear hF hms hW hx hxr hlen hxc x0 x1 x2 B0 hp
  simp only [acA] at *
  go_enter Try.func19, Try.ntmps19
  go_upto_region 7 with fail
  have HX0 := Lib.hid X.out.1
  have HX1 := Lib.hid X.out.2.1
  have HX2 := Lib.hid X.out.2.2.1
  have HB2 := Lib.hid X.out.2.2.2
  have hs2 : w.heap.size + 3 ≤ (((w.alloc (.cells #[.slice A n k, .int .i64 room, .int .i64 lost] 49)).alloc (.cells #[.int .i64 x.wh, .int .i64 x.pk, .int .i64 x.ml.m.link, .int .i64 x.ml.m.frm, .int .i64 x.ml.m.dst, .int .u32 x.ml.m.src, .slice x.ml.A x.ml.m.bs.length x.ml.c, .int .i64 x.ml.m.sent, .int .i64 x.nw, .int .i64 x.dl] 45)).alloc (.cells #[.slice none 0 0, .int .i64 0, .int .i64 0] 49)).heap.size := by simp
  clear X
  generalize ((w.alloc (.cells #[.slice A n k, .int .i64 room, .int .i64 lost] 49)).alloc (.cells #[.int .i64 x.wh, .int .i64 x.pk, .int .i64 x.ml.m.link, .int .i64 x.ml.m.frm, .int .i64 x.ml.m.dst, .int .u32 x.ml.m.src, .slice x.ml.A x.ml.m.bs.length x.ml.c, .int .i64 x.ml.m.sent, .int .i64 x.nw, .int .i64 x.dl] 45)).alloc (.cells #[.slice none 0 0, .int .i64 0, .int .i64 0] 49) = w2 at *
  have kx0 := (HX1.out).cell 0
  have kx1 := (HX1.out).cell 1
  have kx2 := (HX1.out).cell 2
  have kx3 := (HX1.out).cell 3
  have kx4 := (HX1.out).cell 4
  have kx5 := (HX1.out).cell 5
  have kx6 := (HX1.out).cell 6
  have kx7 := (HX1.out).cell 7
  have kx8 := (HX1.out).cell 8
  have kx9 := (HX1.out).cell 9
  simp only [List.getElem?_toArray, List.getElem?_cons_zero, List.getElem?_cons_succ] at kx0 kx1 kx2 kx3 kx4 kx5 kx6 kx7 kx8 kx9
  go_upto_region 8 with fail
  clear kx0 kx1 kx2 kx3 kx4 kx5 kx6 kx7 kx8 kx9
  have xb := Blk.new w2 33 #[.int .i64 x.ml.m.link, .int .i64 x.ml.m.frm, .int .i64 x.ml.m.dst, .int .u32 x.ml.m.src, .slice x.ml.A x.ml.m.bs.length x.ml.c, .int .i64 x.ml.m.sent]
  have xa := HX1.out.alloc (.cells #[.int .i64 x.ml.m.link, .int .i64 x.ml.m.frm, .int .i64 x.ml.m.dst, .int .u32 x.ml.m.src, .slice x.ml.A x.ml.m.bs.length x.ml.c, .int .i64 x.ml.m.sent] 33)
  have xr := HX0.out.alloc (.cells #[.int .i64 x.ml.m.link, .int .i64 x.ml.m.frm, .int .i64 x.ml.m.dst, .int .u32 x.ml.m.src, .slice x.ml.A x.ml.m.bs.length x.ml.c, .int .i64 x.ml.m.sent] 33)
  have xg := HX2.out.alloc (.cells #[.int .i64 x.ml.m.link, .int .i64 x.ml.m.frm, .int .i64 x.ml.m.dst, .int .u32 x.ml.m.src, .slice x.ml.A x.ml.m.bs.length x.ml.c, .int .i64 x.ml.m.sent] 33)
  have b2b : Below w2.heap.size w2 (w2.alloc (.cells #[.int .i64 x.ml.m.link, .int .i64 x.ml.m.frm, .int .i64 x.ml.m.dst, .int .u32 x.ml.m.src, .slice x.ml.A x.ml.m.bs.length x.ml.c, .int .i64 x.ml.m.sent] 33)) := balloc (Below.refl _ _) _
  have hs2b : (w2.alloc (.cells #[.int .i64 x.ml.m.link, .int .i64 x.ml.m.frm, .int .i64 x.ml.m.dst, .int .u32 x.ml.m.src, .slice x.ml.A x.ml.m.bs.length x.ml.c, .int .i64 x.ml.m.sent] 33)).heap.size = w2.heap.size + 1 := by simp
  have hsz2b : w2.heap.size + 1 ≤ (w2.alloc (.cells #[.int .i64 x.ml.m.link, .int .i64 x.ml.m.frm, .int .i64 x.ml.m.dst, .int .u32 x.ml.m.src, .slice x.ml.A x.ml.m.bs.length x.ml.c, .int .i64 x.ml.m.sent] 33)).heap.size := Nat.le_of_eq hs2b.symm
  clear hs2b
  generalize w2.alloc (.cells #[.int .i64 x.ml.m.link, .int .i64 x.ml.m.frm, .int .i64 x.ml.m.dst, .int .u32 x.ml.m.src, .slice x.ml.A x.ml.m.bs.length x.ml.c, .int .i64 x.ml.m.sent] 33) = w2b at *
  have k4 := xb.cell 4
  have k4' := (xb.alloc (.cells #[] 5)).cell 4
  simp only [List.getElem?_toArray, List.getElem?_cons_zero, List.getElem?_cons_succ] at k4 k4'
  have HON := Lib.hid (show (w2b.alloc (.cells #[] 5)).ownsRow w2b.heap.size 5 1 (.slice (some ⟨w2b.heap.size, 0, none⟩) 0 0) 0 [] from World.ownsRow_lit w2b #[] 0 (Nat.le_refl _) (by simp [maxLen]) (by simp))
  have HB2B := Lib.hid (bnext HB2.out b2b)
  have HXR2 := Lib.hid (HXR.out _ (balloc HB2B.out (.cells #[] 5))).rd
  have XS := Lib.hid (And.intro xb (And.intro xa (And.intro xr xg)))
  clear xb xa xr xg
  generalize hm : x.ml.m.bs.length = m at *
  have HM := Lib.hid hm
  clear hm
  go_upto_region 9 with (at_builtin; refine wpList_append_rd rfl (.tmp 42) (.tmp 44) _ rfl w2b.heap.size 5 i0 _ 1 1 Try.underlying31 hi0 hz0 hz1 hz2 rfl (by omega) (.slice (some ⟨w2b.heap.size, 0, none⟩) 0 0) 0 [] rfl HON.out m x.ml.c (x.ml.m.bs.map b8) rfl (by rw [List.length_map, HM.out]; omega) HXR2.out (b8_one _) (by simp only [maxLen]; omega) (by omega) (by simp) ?_; intro v1 w2c ho1 hg1 ha1; simp only [Nat.zero_add, List.nil_append] at ho1; obtain ⟨A1, c1, rfl, q1, q2, q3, q4⟩ := own_row ho1; obtain ⟨qs, ql⟩ := own_soft ho1; have fg : Fr (fun k => k ≠ w2b.heap.size) (w2b.alloc (.cells #[] 5)) w2c := Fr.grown hg1 (fun b hb e => hb (by simp [Value.ownBlock] at e; omega)); have xbc := fg.blk (XS.out.1.alloc _) (by omega); have k4c := xbc.cell 4; have f4c := xbc.frozen 4; simp only [List.getElem?_toArray, List.getElem?_cons_zero, List.getElem?_cons_succ] at k4c)
  have ye := xbc.set 4 (.slice A1 m c1)
  simp only [List.setIfInBounds_toArray, List.set_cons_zero, List.set_cons_succ] at ye
  have hsB := HB2B.out.size
  have fw : Fr (fun k => k < w2b.heap.size ∧ k ≠ w2.heap.size) w2b (w2c.setCell ⟨w2.heap.size, 4, none⟩ (.slice A1 m c1)) := (((Fr.alloc _).trans (fg.mono (fun b _ hb => by omega))).trans (Fr.set (a := ⟨w2.heap.size, 4, none⟩) (fun b hb => hb.2) _))
  have ya := fw.blk XS.out.2.1 ⟨XS.out.2.1.lt, by omega⟩
  have yr := fw.blk XS.out.2.2.1 ⟨XS.out.2.2.1.lt, by omega⟩
  have yg := fw.blk XS.out.2.2.2 ⟨XS.out.2.2.2.lt, by omega⟩
  have b2e : Below w.heap.size w (w2c.setCell ⟨w2.heap.size, 4, none⟩ (.slice A1 m c1)) := HB2B.out.trans (fw.below (B := w.heap.size) (by omega) (fun b hb => ⟨by omega, by omega⟩))
  have re : Rd (w2c.setCell ⟨w2.heap.size, 4, none⟩ (.slice A1 m c1)) (w2c.setCell ⟨w2.heap.size, 4, none⟩ (.slice A1 m c1)).heap.size A1 (x.ml.m.bs.map b8) := by
    rw [World.size_setCell]
    exact q3.off (fun a e => by have := q4 a e; omega) _
  have se : Soft (w2c.setCell ⟨w2.heap.size, 4, none⟩ (.slice A1 m c1)) A1 := qs.set _ _
  have le : ∀ a, A1 = some a → a.block < (w2c.setCell ⟨w2.heap.size, 4, none⟩ (.slice A1 m c1)).heap.size := fun a e => by rw [World.size_setCell]; exact ql a e
  have hse : w2b.heap.size ≤ (w2c.setCell ⟨w2.heap.size, 4, none⟩ (.slice A1 m c1)).heap.size := fw.2.2.2.1
  clear fw fg xbc hg1 ha1 ho1 q1 q2 q3 qs ql k4 k4' k4c f4c hsB
  generalize w2c.setCell ⟨w2.heap.size, 4, none⟩ (.slice A1 m c1) = w2e at *
  obtain ⟨d0, d1, d2⟩ := yr.three
  have kx0 := (ya).cell 0
  have kx1 := (ya).cell 1
  have kx2 := (ya).cell 2
  have kx3 := (ya).cell 3
  have kx4 := (ya).cell 4
  have kx5 := (ya).cell 5
  have kx6 := (ya).cell 6
  have kx7 := (ya).cell 7
  have kx8 := (ya).cell 8
  have kx9 := (ya).cell 9
  simp only [List.getElem?_toArray, List.getElem?_cons_zero, List.getElem?_cons_succ] at kx0 kx1 kx2 kx3 kx4 kx5 kx6 kx7 kx8 kx9
  go_wp2_with fail
  refine (HRT.out _ b2e).mono ?_
  rintro e w3 ⟨A', n', c', ws', rfl, hW3, hL3, hb3⟩
  clear d0 d1 d2
  clear kx0 kx1 kx2 kx3 kx4 kx5 kx6 kx7 kx8 kx9
  go_upto_region 10 with fail
  have hs3 := hb3.size
  have xo := Blk.new w3 49 #[.slice A' n' c', .int .i64 room, .int .i64 lo]
  have ym := (ye.below hb3 ye.lt).alloc (.cells #[.slice A' n' c', .int .i64 room, .int .i64 lo] 49)
  have yg3 := (yg.below hb3 yg.lt).alloc (.cells #[.slice A' n' c', .int .i64 room, .int .i64 lo] 49)
  have b34 : Below w3.heap.size w3 (w3.alloc (.cells #[.slice A' n' c', .int .i64 room, .int .i64 lo] 49)) := balloc (Below.refl _ _) _
  have r4 := (re.below (bnext hb3 b34)).more (bnext hb3 b34).size
  have s4 := se.fr (p := fun _ => True) (Fr.of_below (bnext hb3 b34)) (fun a e => ⟨le a e, trivial⟩)
  have hs4 := b34.size
  generalize w3.alloc (.cells #[.slice A' n' c', .int .i64 room, .int .i64 lo] 49) = w4 at *
  have B4 : Below w.heap.size w w4 := bnext (bnext b2e hb3) b34
  obtain ⟨e0, e1, e2, e3, e4, e5⟩ := ym.six
  go_wp2_with fail
  refine (HPT.out _ A1 c1 B4 r4).mono ?_
  rintro e w5 ⟨v', rs', rfl, hG, hL5, hpr⟩
  clear e0 e1 e2 e3 e4 e5
  obtain ⟨F5, f5, hv5⟩ := id hG
  have hs5 := f5.2.2.2.1
  have hKn : ∀ b, w.heap.size ≤ b → Kp g v b := fun b hb => HGO.out b (.inr hb)
  have hK4 : ∀ a, A1 = some a → Kp g v a.block := fun a e => hKn _ (by have := q4 a e; omega)
  have XN := Lib.hid (f5.blk ym (hKn _ (by omega)))
  have XG := Lib.hid (f5.blk yg3 (hKn _ (by omega)))
  have XO := Lib.hid (f5.blk xo (hKn _ (by omega)))
  have HI0 := Lib.hid (show IncA A1 m w5 w5 from by
    have h := IncA.start (f5.rd r4 hK4) (s4.fr f5 (fun a e => ⟨by have := le a e; omega, hK4 a e⟩))
    rw [HM.out] at h
    exact h)
  have HA := Lib.hid (And.intro q4 le)
  have HFIN := Lib.hid (And.intro b2e (And.intro hb3 (And.intro b34 (And.intro hG (And.intro hpr (And.intro hW3 (hL5.trans (HLL.out.trans hL3.symm))))))))
  clear hK4 hKn F5 f5 hv5 xo ym yg3 r4 s4 ye ya yr yg b2e re se le q4 hW3 hL3 hL5 hpr hG hb3 b34 B4 b2b
  go_wp2_with fail
  go_loopw [13] (fun i wr => ∃ c : Nat, c ≤ m ∧ i = .int .i64 c ∧ IncA A1 m w5 wr) (fun i _ => m - (intOf i).toNat)
  case atStart => exact ⟨0, by omega, rfl, HI0.out⟩
  case round =>
    obtain ⟨c, hc, rfl, hI⟩ := hrel
    have HI := Lib.hid hI
    have hfr : ∀ q : Nat, (∀ a, A1 = some a → q ≠ a.block) → (fun k => ∀ a, A1 = some a → k ≠ a.block) q := fun q h => h
    have xnr := hI.1.blk XN.out (hfr _ (fun a e => by have := HA.out.1 a e; omega))
    have xgr := hI.1.blk XG.out (hfr _ (fun a e => by have := HA.out.1 a e; omega))
    have xor := hI.1.blk XO.out (hfr _ (fun a e => by have := HA.out.2 a e; omega))
    clear hfr
    by_cases hlt : c < m
    · obtain ⟨b, off, z, he, hz, hf⟩ := hI.at hlt
      subst he
      have hi1 : (c : Int) < (m : Int) := by omega
      have n4 := xnr.cell 4
      simp only [List.getElem?_toArray, List.getElem?_cons_zero, List.getElem?_cons_succ] at n4
      clear hI xnr xgr xor
      go_wp2_with fail
      go_roundw
      case rel => exact ⟨c + 1, by omega, by go_num, HI.out.step hlt _⟩
      case measure => simp [intOf]; omega
    · obtain rfl : c = m := by omega
      have n4 := xnr.cell 4
      simp only [List.getElem?_toArray, List.getElem?_cons_zero, List.getElem?_cons_succ] at n4
      clear hI
      go_upto_region 15 with fail
      obtain ⟨z0, z1, z2⟩ := xgr.three
      obtain ⟨y0, y1, y2⟩ := xgr.ice3
      obtain ⟨d0, d1, d2⟩ := xor.three
      have S0 : C3 w3.heap.size (.slice A' n' c') (.int .i64 room) (.int .i64 lo) wr.drew := ⟨d0, d1, d2⟩
      have Q3 := Lib.hid (show w.heap.size + 1 + 1 ≠ w3.heap.size by omega)
      go_region_held3 (fun W => C3 w3.heap.size (.slice A' n' c') (.int .i64 room) (.int .i64 lo) W) (first | exact S0 | exact c3_far _ _ _ S0 Q3.out)
        (first
        | (go_at_call 10; refine (num19_any _ _).mono ?_; rintro e w' ⟨rfl, rfl⟩))
      go_wp2
      refine bodyPost_ret (v := .tuple #[.pointer (some ⟨g, 0, none⟩), .agg #[.slice A' n' c', .int .i64 room, .int .i64 lo], .bool true]) (by simp [results, Try.results19, go_sem, z0, z1, z2]) rfl ?_
      obtain ⟨g1, g2, g3, g4, g5, g6, g7⟩ := HFIN.out
      refine act_fin HF.out g1 g2 g3 g4 g5 ?_ g6 (fun b hb => HP.out b hb) g7
      have fI : Fr (fun q => q < w.heap.size ∨ (w2e.heap.size ≤ q ∧ q < w5.heap.size)) w5 wr := HI.out.1.mono (fun b _ hb a e => by have := HA.out.1 a e; have := HA.out.2 a e; omega)
      exact (((fI.trans (Fr.drewN 1)).putG (by omega) 0 _).putG (by omega) 1 _).putG (by omega) 2 _

set_option maxHeartbeats 4000000 in
theorem act_put4 {n0 g room lost : Nat} {v : Value} {rs ws : List Ml} {w : World} {p : Nat → Prop} {A : Option Addr} {n k : Nat} (x : Ac) (hx : x.wh = 4) (hxr : RdP w p x.ml.A (x.ml.m.bs.map b8)) (hxl : x.ml.m.bs.length ≤ 60) (hxc : x.ml.m.bs.length ≤ x.ml.c ∧ x.ml.c ≤ maxLen) (hF : Fl w n0 g v rs room lost) (hn0 : n0 ≤ w.heap.size) (hms : msL rs = msL ws) (hW : Want w p A n k ws) (hp : ∀ b, p b → Kp g v b) :
    Calls Try.prog 19 #[.pointer (some ⟨g, 0, none⟩), .agg #[.slice A n k, .int .i64 room, .int .i64 lost], .agg (acA x)] w (ActOk w n0 g v rs room p) := by
  have x0 := ((Blk.new w 49 #[.slice A n k, .int .i64 room, .int .i64 lost]).alloc (.cells (acA x) 45)).alloc (.cells #[.slice none 0 0, .int .i64 0, .int .i64 0] 49)
  have x1 := (Blk.new (w.alloc (.cells #[.slice A n k, .int .i64 room, .int .i64 lost] 49)) 45 (acA x)).alloc (.cells #[.slice none 0 0, .int .i64 0, .int .i64 0] 49)
  have x2 := Blk.new ((w.alloc (.cells #[.slice A n k, .int .i64 room, .int .i64 lost] 49)).alloc (.cells (acA x) 45)) 49 #[.slice none 0 0, .int .i64 0, .int .i64 0]
  simp only [World.size_alloc] at x1 x2
  have B0 : Below w.heap.size w (((w.alloc (.cells #[.slice A n k, .int .i64 room, .int .i64 lost] 49)).alloc (.cells (acA x) 45)).alloc (.cells #[.slice none 0 0, .int .i64 0, .int .i64 0] 49)) := balloc (balloc (balloc (Below.refl _ _) _) _) _
  have X := Lib.hid (And.intro x0 (And.intro x1 (And.intro x2 B0)))
  have hn512 : n ≤ 512 := by have := hF.len; have := hF.room0.2; have := hW.1; have e : (msL rs).length = (msL ws).length := by rw [hms]
                             rw [msL_len, msL_len] at e; omega
  have gl := hF.blk.lt
  have HGO := Lib.hid (show ∀ b, Or' p w b → Kp g v b from fun b hb => hb.elim (fun h => hp b h.1) (fun h => ⟨by omega, fun e => by have := hF.row_lt b e; omega⟩))
  obtain ⟨i0, hi0, hz0, hz1, hz2⟩ := info_parts u8_info
  have hlen : rs.length = n := by have e : (msL rs).length = (msL ws).length := by rw [hms]
                                  rw [msL_len, msL_len, hW.1] at e; exact e
  have HXR := Lib.hid (fun W (hb : Below w.heap.size w W) => (show RdP W (fun b => p b ∧ b < w.heap.size) x.ml.A (x.ml.m.bs.map b8) from hxr.fr (r := fun _ => True) (Fr.of_below hb) (fun _ _ _ => trivial) (fun b hb hl => ⟨hb, hl⟩)))
  have HRT := Lib.hid (fun W (hb : Below w.heap.size w W) => refputg_any (room := room) (lost := lost) x.ml (hW.p1 hb) hn512 hF.lost0 (HXR.out W hb))
  have HPT := Lib.hid (fun W A1 c1 (hb : Below w.heap.size w W) (hr : Rd W W.heap.size A1 (x.ml.m.bs.map b8)) => by
    have h := putg_any ⟨x.ml.m, A1, c1⟩ (hF.below hb) (Nat.le_trans hn0 hb.size) hr (by show x.ml.m.bs.length ≤ _; omega)
    simp only [mlA, hlen] at h
    exact h)
  have HLL := Lib.hid (show putL x.ml.m room (msL rs) = putL x.ml.m room (msL ws) by rw [hms])
  generalize putLost x.ml.m room n lost = lo at *
  generalize errPut x.ml.m room n = pe at *
  simp only [mlA] at HRT
  have HP := Lib.hid hp
  have HXC := Lib.hid hxc
  have HF := Lib.hid hF
  have HMS := Lib.hid hms
  have HW := Lib.hid hW
  have t0 : (x.wh == 0) = false := by rw [beq_eq_false_iff_ne]; omega
  have t1 : (x.wh == 1) = false := by rw [beq_eq_false_iff_ne]; omega
  have t2 : (x.wh == 2) = false := by rw [beq_eq_false_iff_ne]; omega
  have t3 : (x.wh == 3) = false := by rw [beq_eq_false_iff_ne]; omega
  have t4 : (x.wh == 4) = true := by rw [beq_iff_eq]; exact hx
  clear hF hms hW hx hxr hlen hxc x0 x1 x2 B0 hp
  simp only [acA] at *
  go_enter Try.func19, Try.ntmps19
  go_upto_region 7 with fail
  have HX0 := Lib.hid X.out.1
  have HX1 := Lib.hid X.out.2.1
  have HX2 := Lib.hid X.out.2.2.1
  have HB2 := Lib.hid X.out.2.2.2
  have hs2 : w.heap.size + 3 ≤ (((w.alloc (.cells #[.slice A n k, .int .i64 room, .int .i64 lost] 49)).alloc (.cells #[.int .i64 x.wh, .int .i64 x.pk, .int .i64 x.ml.m.link, .int .i64 x.ml.m.frm, .int .i64 x.ml.m.dst, .int .u32 x.ml.m.src, .slice x.ml.A x.ml.m.bs.length x.ml.c, .int .i64 x.ml.m.sent, .int .i64 x.nw, .int .i64 x.dl] 45)).alloc (.cells #[.slice none 0 0, .int .i64 0, .int .i64 0] 49)).heap.size := by simp
  clear X
  generalize ((w.alloc (.cells #[.slice A n k, .int .i64 room, .int .i64 lost] 49)).alloc (.cells #[.int .i64 x.wh, .int .i64 x.pk, .int .i64 x.ml.m.link, .int .i64 x.ml.m.frm, .int .i64 x.ml.m.dst, .int .u32 x.ml.m.src, .slice x.ml.A x.ml.m.bs.length x.ml.c, .int .i64 x.ml.m.sent, .int .i64 x.nw, .int .i64 x.dl] 45)).alloc (.cells #[.slice none 0 0, .int .i64 0, .int .i64 0] 49) = w2 at *
  have kx0 := (HX1.out).cell 0
  have kx1 := (HX1.out).cell 1
  have kx2 := (HX1.out).cell 2
  have kx3 := (HX1.out).cell 3
  have kx4 := (HX1.out).cell 4
  have kx5 := (HX1.out).cell 5
  have kx6 := (HX1.out).cell 6
  have kx7 := (HX1.out).cell 7
  have kx8 := (HX1.out).cell 8
  have kx9 := (HX1.out).cell 9
  simp only [List.getElem?_toArray, List.getElem?_cons_zero, List.getElem?_cons_succ] at kx0 kx1 kx2 kx3 kx4 kx5 kx6 kx7 kx8 kx9
  go_upto_region 8 with fail
  clear kx0 kx1 kx2 kx3 kx4 kx5 kx6 kx7 kx8 kx9
  have xb := Blk.new w2 33 #[.int .i64 x.ml.m.link, .int .i64 x.ml.m.frm, .int .i64 x.ml.m.dst, .int .u32 x.ml.m.src, .slice x.ml.A x.ml.m.bs.length x.ml.c, .int .i64 x.ml.m.sent]
  have xa := HX1.out.alloc (.cells #[.int .i64 x.ml.m.link, .int .i64 x.ml.m.frm, .int .i64 x.ml.m.dst, .int .u32 x.ml.m.src, .slice x.ml.A x.ml.m.bs.length x.ml.c, .int .i64 x.ml.m.sent] 33)
  have xr := HX0.out.alloc (.cells #[.int .i64 x.ml.m.link, .int .i64 x.ml.m.frm, .int .i64 x.ml.m.dst, .int .u32 x.ml.m.src, .slice x.ml.A x.ml.m.bs.length x.ml.c, .int .i64 x.ml.m.sent] 33)
  have xg := HX2.out.alloc (.cells #[.int .i64 x.ml.m.link, .int .i64 x.ml.m.frm, .int .i64 x.ml.m.dst, .int .u32 x.ml.m.src, .slice x.ml.A x.ml.m.bs.length x.ml.c, .int .i64 x.ml.m.sent] 33)
  have b2b : Below w2.heap.size w2 (w2.alloc (.cells #[.int .i64 x.ml.m.link, .int .i64 x.ml.m.frm, .int .i64 x.ml.m.dst, .int .u32 x.ml.m.src, .slice x.ml.A x.ml.m.bs.length x.ml.c, .int .i64 x.ml.m.sent] 33)) := balloc (Below.refl _ _) _
  have hs2b : (w2.alloc (.cells #[.int .i64 x.ml.m.link, .int .i64 x.ml.m.frm, .int .i64 x.ml.m.dst, .int .u32 x.ml.m.src, .slice x.ml.A x.ml.m.bs.length x.ml.c, .int .i64 x.ml.m.sent] 33)).heap.size = w2.heap.size + 1 := by simp
  have hsz2b : w2.heap.size + 1 ≤ (w2.alloc (.cells #[.int .i64 x.ml.m.link, .int .i64 x.ml.m.frm, .int .i64 x.ml.m.dst, .int .u32 x.ml.m.src, .slice x.ml.A x.ml.m.bs.length x.ml.c, .int .i64 x.ml.m.sent] 33)).heap.size := Nat.le_of_eq hs2b.symm
  clear hs2b
  generalize w2.alloc (.cells #[.int .i64 x.ml.m.link, .int .i64 x.ml.m.frm, .int .i64 x.ml.m.dst, .int .u32 x.ml.m.src, .slice x.ml.A x.ml.m.bs.length x.ml.c, .int .i64 x.ml.m.sent] 33) = w2b at *
  have k4 := xb.cell 4
  have k4' := (xb.alloc (.cells #[] 5)).cell 4
  simp only [List.getElem?_toArray, List.getElem?_cons_zero, List.getElem?_cons_succ] at k4 k4'
  have HON := Lib.hid (show (w2b.alloc (.cells #[] 5)).ownsRow w2b.heap.size 5 1 (.slice (some ⟨w2b.heap.size, 0, none⟩) 0 0) 0 [] from World.ownsRow_lit w2b #[] 0 (Nat.le_refl _) (by simp [maxLen]) (by simp))
  have HB2B := Lib.hid (bnext HB2.out b2b)
  have HXR2 := Lib.hid (HXR.out _ (balloc HB2B.out (.cells #[] 5))).rd
  have XS := Lib.hid (And.intro xb (And.intro xa (And.intro xr xg)))
  clear xb xa xr xg
  generalize hm : x.ml.m.bs.length = m at *
  have HM := Lib.hid hm
  clear hm
  go_upto_region 9 with (at_builtin; refine wpList_append_rd rfl (.tmp 42) (.tmp 44) _ rfl w2b.heap.size 5 i0 _ 1 1 Try.underlying31 hi0 hz0 hz1 hz2 rfl (by omega) (.slice (some ⟨w2b.heap.size, 0, none⟩) 0 0) 0 [] rfl HON.out m x.ml.c (x.ml.m.bs.map b8) rfl (by rw [List.length_map, HM.out]; omega) HXR2.out (b8_one _) (by simp only [maxLen]; omega) (by omega) (by simp) ?_; intro v1 w2c ho1 hg1 ha1; simp only [Nat.zero_add, List.nil_append] at ho1; obtain ⟨A1, c1, rfl, q1, q2, q3, q4⟩ := own_row ho1; obtain ⟨qs, ql⟩ := own_soft ho1; have fg : Fr (fun k => k ≠ w2b.heap.size) (w2b.alloc (.cells #[] 5)) w2c := Fr.grown hg1 (fun b hb e => hb (by simp [Value.ownBlock] at e; omega)); have xbc := fg.blk (XS.out.1.alloc _) (by omega); have k4c := xbc.cell 4; have f4c := xbc.frozen 4; simp only [List.getElem?_toArray, List.getElem?_cons_zero, List.getElem?_cons_succ] at k4c)
  have ye := xbc.set 4 (.slice A1 m c1)
  simp only [List.setIfInBounds_toArray, List.set_cons_zero, List.set_cons_succ] at ye
  have hsB := HB2B.out.size
  have fw : Fr (fun k => k < w2b.heap.size ∧ k ≠ w2.heap.size) w2b (w2c.setCell ⟨w2.heap.size, 4, none⟩ (.slice A1 m c1)) := (((Fr.alloc _).trans (fg.mono (fun b _ hb => by omega))).trans (Fr.set (a := ⟨w2.heap.size, 4, none⟩) (fun b hb => hb.2) _))
  have ya := fw.blk XS.out.2.1 ⟨XS.out.2.1.lt, by omega⟩
  have yr := fw.blk XS.out.2.2.1 ⟨XS.out.2.2.1.lt, by omega⟩
  have yg := fw.blk XS.out.2.2.2 ⟨XS.out.2.2.2.lt, by omega⟩
  have b2e : Below w.heap.size w (w2c.setCell ⟨w2.heap.size, 4, none⟩ (.slice A1 m c1)) := HB2B.out.trans (fw.below (B := w.heap.size) (by omega) (fun b hb => ⟨by omega, by omega⟩))
  have re : Rd (w2c.setCell ⟨w2.heap.size, 4, none⟩ (.slice A1 m c1)) (w2c.setCell ⟨w2.heap.size, 4, none⟩ (.slice A1 m c1)).heap.size A1 (x.ml.m.bs.map b8) := by
    rw [World.size_setCell]
    exact q3.off (fun a e => by have := q4 a e; omega) _
  have se : Soft (w2c.setCell ⟨w2.heap.size, 4, none⟩ (.slice A1 m c1)) A1 := qs.set _ _
  have le : ∀ a, A1 = some a → a.block < (w2c.setCell ⟨w2.heap.size, 4, none⟩ (.slice A1 m c1)).heap.size := fun a e => by rw [World.size_setCell]; exact ql a e
  have hse : w2b.heap.size ≤ (w2c.setCell ⟨w2.heap.size, 4, none⟩ (.slice A1 m c1)).heap.size := fw.2.2.2.1
  clear fw fg xbc hg1 ha1 ho1 q1 q2 q3 qs ql k4 k4' k4c f4c hsB
  generalize w2c.setCell ⟨w2.heap.size, 4, none⟩ (.slice A1 m c1) = w2e at *
  obtain ⟨d0, d1, d2⟩ := yr.three
  have kx0 := (ya).cell 0
  have kx1 := (ya).cell 1
  have kx2 := (ya).cell 2
  have kx3 := (ya).cell 3
  have kx4 := (ya).cell 4
  have kx5 := (ya).cell 5
  have kx6 := (ya).cell 6
  have kx7 := (ya).cell 7
  have kx8 := (ya).cell 8
  have kx9 := (ya).cell 9
  simp only [List.getElem?_toArray, List.getElem?_cons_zero, List.getElem?_cons_succ] at kx0 kx1 kx2 kx3 kx4 kx5 kx6 kx7 kx8 kx9
  go_wp2_with fail
  refine (HRT.out _ b2e).mono ?_
  rintro e w3 ⟨A', n', c', ws', rfl, hW3, hL3, hb3⟩
  clear d0 d1 d2
  clear kx0 kx1 kx2 kx3 kx4 kx5 kx6 kx7 kx8 kx9
  go_upto_region 10 with fail
  have hs3 := hb3.size
  have xo := Blk.new w3 49 #[.slice A' n' c', .int .i64 room, .int .i64 lo]
  have ym := (ye.below hb3 ye.lt).alloc (.cells #[.slice A' n' c', .int .i64 room, .int .i64 lo] 49)
  have yg3 := (yg.below hb3 yg.lt).alloc (.cells #[.slice A' n' c', .int .i64 room, .int .i64 lo] 49)
  have b34 : Below w3.heap.size w3 (w3.alloc (.cells #[.slice A' n' c', .int .i64 room, .int .i64 lo] 49)) := balloc (Below.refl _ _) _
  have r4 := (re.below (bnext hb3 b34)).more (bnext hb3 b34).size
  have s4 := se.fr (p := fun _ => True) (Fr.of_below (bnext hb3 b34)) (fun a e => ⟨le a e, trivial⟩)
  have hs4 := b34.size
  generalize w3.alloc (.cells #[.slice A' n' c', .int .i64 room, .int .i64 lo] 49) = w4 at *
  have B4 : Below w.heap.size w w4 := bnext (bnext b2e hb3) b34
  obtain ⟨e0, e1, e2, e3, e4, e5⟩ := ym.six
  go_wp2_with fail
  refine (HPT.out _ A1 c1 B4 r4).mono ?_
  rintro e w5 ⟨v', rs', rfl, hG, hL5, hpr⟩
  clear e0 e1 e2 e3 e4 e5
  obtain ⟨F5, f5, hv5⟩ := id hG
  have hs5 := f5.2.2.2.1
  have hKn : ∀ b, w.heap.size ≤ b → Kp g v b := fun b hb => HGO.out b (.inr hb)
  have hK4 : ∀ a, A1 = some a → Kp g v a.block := fun a e => hKn _ (by have := q4 a e; omega)
  have XN := Lib.hid (f5.blk ym (hKn _ (by omega)))
  have XG := Lib.hid (f5.blk yg3 (hKn _ (by omega)))
  have XO := Lib.hid (f5.blk xo (hKn _ (by omega)))
  have HI0 := Lib.hid (show IncA A1 m w5 w5 from by
    have h := IncA.start (f5.rd r4 hK4) (s4.fr f5 (fun a e => ⟨by have := le a e; omega, hK4 a e⟩))
    rw [HM.out] at h
    exact h)
  have HA := Lib.hid (And.intro q4 le)
  have HFIN := Lib.hid (And.intro b2e (And.intro hb3 (And.intro b34 (And.intro hG (And.intro hpr (And.intro hW3 (hL5.trans (HLL.out.trans hL3.symm))))))))
  clear hK4 hKn F5 f5 hv5 xo ym yg3 r4 s4 ye ya yr yg b2e re se le q4 hW3 hL3 hL5 hpr hG hb3 b34 B4 b2b
  go_wp2_with fail
  go_loopw [13] (fun i wr => ∃ c : Nat, c ≤ m ∧ i = .int .i64 c ∧ IncA A1 m w5 wr) (fun i _ => m - (intOf i).toNat)
  case atStart => exact ⟨0, by omega, rfl, HI0.out⟩
  case round =>
    obtain ⟨c, hc, rfl, hI⟩ := hrel
    have HI := Lib.hid hI
    have hfr : ∀ q : Nat, (∀ a, A1 = some a → q ≠ a.block) → (fun k => ∀ a, A1 = some a → k ≠ a.block) q := fun q h => h
    have xnr := hI.1.blk XN.out (hfr _ (fun a e => by have := HA.out.1 a e; omega))
    have xgr := hI.1.blk XG.out (hfr _ (fun a e => by have := HA.out.1 a e; omega))
    have xor := hI.1.blk XO.out (hfr _ (fun a e => by have := HA.out.2 a e; omega))
    clear hfr
    by_cases hlt : c < m
    · obtain ⟨b, off, z, he, hz, hf⟩ := hI.at hlt
      subst he
      have hi1 : (c : Int) < (m : Int) := by omega
      have n4 := xnr.cell 4
      simp only [List.getElem?_toArray, List.getElem?_cons_zero, List.getElem?_cons_succ] at n4
      clear hI xnr xgr xor
      go_wp2_with fail
      go_roundw
      case rel => exact ⟨c + 1, by omega, by go_num, HI.out.step hlt _⟩
      case measure => simp [intOf]; omega
    · obtain rfl : c = m := by omega
      have n4 := xnr.cell 4
      simp only [List.getElem?_toArray, List.getElem?_cons_zero, List.getElem?_cons_succ] at n4
      clear hI
      go_upto_region 15 with fail
      obtain ⟨z0, z1, z2⟩ := xgr.three
      obtain ⟨y0, y1, y2⟩ := xgr.ice3
      obtain ⟨d0, d1, d2⟩ := xor.three
      have S0 : C3 w3.heap.size (.slice A' n' c') (.int .i64 room) (.int .i64 lo) wr.drew := ⟨d0, d1, d2⟩
      have Q3 := Lib.hid (show w.heap.size + 1 + 1 ≠ w3.heap.size by omega)
      go_region_held3 (fun W => C3 w3.heap.size (.slice A' n' c') (.int .i64 room) (.int .i64 lo) W) (first | exact S0 | exact c3_far _ _ _ S0 Q3.out)
        (first
        | (go_at_call 10; refine (num19_any _ _).mono ?_; rintro e w' ⟨rfl, rfl⟩))
      go_wp2
      refine bodyPost_ret (v := .tuple #[.pointer (some ⟨g, 0, none⟩), .agg #[.slice A' n' c', .int .i64 room, .int .i64 lo], .bool true]) (by simp [results, Try.results19, go_sem, z0, z1, z2]) rfl ?_
      obtain ⟨g1, g2, g3, g4, g5, g6, g7⟩ := HFIN.out
      refine act_fin HF.out g1 g2 g3 g4 g5 ?_ g6 (fun b hb => HP.out b hb) g7
      have fI : Fr (fun q => q < w.heap.size ∨ (w2e.heap.size ≤ q ∧ q < w5.heap.size)) w5 wr := HI.out.1.mono (fun b _ hb a e => by have := HA.out.1 a e; have := HA.out.2 a e; omega)
      exact (((fI.trans (Fr.drewN 1)).putG (by omega) 0 _).putG (by omega) 1 _).putG (by omega) 2 _
end Go.Proofs.Ytgdkobknjgbdbaa
