/- act: Peek. -/
import Derived.Test.YtgdkobknjgbdbaaFlY
import Derived.Test.YtgdkobknjgbdbaaFlSo
namespace Go.Proofs.Ytgdkobknjgbdbaa
set_option linter.unusedVariables false
set_option linter.unusedSimpArgs false
open Go.RowKit
set_option maxRecDepth 100000

/-- the flight that came in is handed on -/
abbrev C3 (b : Nat) (r0 r1 r2 : Value) (W : World) : Prop := W.cell? ⟨b, 0, none⟩ = some r0 ∧ W.cell? ⟨b, 1, none⟩ = some r1 ∧ W.cell? ⟨b, 2, none⟩ = some r2
theorem c3_far {b : Nat} {r0 r1 r2 : Value} {W : World} {G : Nat} (u0 u1 u2 : Value) (h : C3 b r0 r1 r2 W) (q : G ≠ b) : C3 b r0 r1 r2 (((W.setCell ⟨G, 0, none⟩ u0).setCell ⟨G, 1, none⟩ u1).setCell ⟨G, 2, none⟩ u2) := ⟨far3 _ _ _ q h.1, far3 _ _ _ q h.2.1, far3 _ _ _ q h.2.2⟩
theorem GivesN.cells {m : Mm} {er : Int} {w0 w' : World} {e : Ending} (h : GivesN m er w0 e w') : ∃ rA rc, e = .returned (.tuple #[.agg #[.int .i64 m.link, .int .i64 m.frm, .int .i64 m.dst, .int .u32 m.src, .slice rA m.bs.length rc, .int .i64 m.sent], .int .i64 er]) ∧ m.bs.length ≤ rc ∧ rc ≤ maxLen ∧ Rd w' w'.heap.size rA (m.bs.map b8) ∧ (∀ a, rA = some a → w0.heap.size ≤ a.block) ∧ Soft w' rA ∧ (∀ a, rA = some a → a.block < w'.heap.size) := h

set_option maxHeartbeats 4000000 in
theorem act_peek {n0 g room lost : Nat} {v : Value} {rs ws : List Ml} {w : World} {p : Nat → Prop} {A : Option Addr} {n k : Nat} (x : Ac) (hx : x.wh = 5) (hF : Fl w n0 g v rs room lost) (hn0 : n0 ≤ w.heap.size) (hms : msL rs = msL ws) (hW : Want w p A n k ws) (hp : ∀ b, p b → Kp g v b) :
    Calls Try.prog 19 #[.pointer (some ⟨g, 0, none⟩), .agg #[.slice A n k, .int .i64 room, .int .i64 lost], .agg (acA x)] w (ActOk w n0 g v rs room p) := by
  have x0 := ((Blk.new w 49 #[.slice A n k, .int .i64 room, .int .i64 lost]).alloc (.cells (acA x) 45)).alloc (.cells #[.slice none 0 0, .int .i64 0, .int .i64 0] 49)
  have x1 := (Blk.new (w.alloc (.cells #[.slice A n k, .int .i64 room, .int .i64 lost] 49)) 45 (acA x)).alloc (.cells #[.slice none 0 0, .int .i64 0, .int .i64 0] 49)
  have x2 := Blk.new ((w.alloc (.cells #[.slice A n k, .int .i64 room, .int .i64 lost] 49)).alloc (.cells (acA x) 45)) 49 #[.slice none 0 0, .int .i64 0, .int .i64 0]
  simp only [World.size_alloc] at x1 x2
  have B0 : Below w.heap.size w (((w.alloc (.cells #[.slice A n k, .int .i64 room, .int .i64 lost] 49)).alloc (.cells (acA x) 45)).alloc (.cells #[.slice none 0 0, .int .i64 0, .int .i64 0] 49)) := balloc (balloc (balloc (Below.refl _ _) _) _) _
  have X := Lib.hid (And.intro x0 (And.intro x1 (And.intro x2 B0)))
  have hn512 : n ≤ 512 := by have := hF.len; have := hF.room0.2; have := hW.1; have e : (msL rs).length = (msL ws).length := by rw [hms]
                             rw [msL_len, msL_len] at e; omega
  have gl := hF.blk.lt
  have HGO := Lib.hid (show ∀ b, Or' p w b → Kp g v b from fun b hb => hb.elim (fun h => hp b h.1) (fun h => ⟨by omega, fun e => by have := hF.row_lt b e; omega⟩))
  have HRT := Lib.hid (fun W (hb : Below w.heap.size w W) => (reftakeg_any (room := room) (lost := lost) x.pk (hW.p1 hb) hn512).mono fun _ _ h => h.cells)
  have HPT := Lib.hid (fun W (hb : Below w.heap.size w W) => (peekgT_any x.pk (hF.below hb)).mono fun _ _ (And.intro h1 h2) => And.intro h1.cells h2)
  rw [← hms] at HRT
  have hlm : (pickM x.pk (msL rs)).1.bs.length ≤ 1048576 := by
    unfold pickM
    rw [msL_get?]
    cases hq : rs[pickF x.pk (msL rs).length]? with
    | none => simp [mZ]
    | some r => exact (hF.mails r (List.mem_of_getElem? hq)).2.2.2
  generalize (pickM x.pk (msL rs)).1 = pm at *
  generalize (pickM x.pk (msL rs)).2 = pe at *
  have HP := Lib.hid hp
  have HF := Lib.hid hF
  have HMS := Lib.hid hms
  have HW := Lib.hid hW
  have t0 : (x.wh == 0) = false := by rw [beq_eq_false_iff_ne]; omega
  have t1 : (x.wh == 1) = false := by rw [beq_eq_false_iff_ne]; omega
  have t2 : (x.wh == 2) = false := by rw [beq_eq_false_iff_ne]; omega
  have t3 : (x.wh == 3) = false := by rw [beq_eq_false_iff_ne]; omega
  have t4 : (x.wh == 4) = false := by rw [beq_eq_false_iff_ne]; omega
  have t5 : (x.wh == 5) = true := by rw [beq_iff_eq]; exact hx
  clear hF hms hW hx x0 x1 x2 B0 hp
  simp only [acA] at *
  go_enter Try.func19, Try.ntmps19
  go_wp2_with fail
  have HX0 := Lib.hid X.out.1
  have HX1 := Lib.hid X.out.2.1
  have HX2 := Lib.hid X.out.2.2.1
  have HB2 := Lib.hid X.out.2.2.2
  have hs2 : w.heap.size + 3 ≤ (((w.alloc (.cells #[.slice A n k, .int .i64 room, .int .i64 lost] 49)).alloc (.cells #[.int .i64 x.wh, .int .i64 x.pk, .int .i64 x.ml.m.link, .int .i64 x.ml.m.frm, .int .i64 x.ml.m.dst, .int .u32 x.ml.m.src, .slice x.ml.A x.ml.m.bs.length x.ml.c, .int .i64 x.ml.m.sent, .int .i64 x.nw, .int .i64 x.dl] 45)).alloc (.cells #[.slice none 0 0, .int .i64 0, .int .i64 0] 49)).heap.size := by simp
  clear X
  generalize ((w.alloc (.cells #[.slice A n k, .int .i64 room, .int .i64 lost] 49)).alloc (.cells #[.int .i64 x.wh, .int .i64 x.pk, .int .i64 x.ml.m.link, .int .i64 x.ml.m.frm, .int .i64 x.ml.m.dst, .int .u32 x.ml.m.src, .slice x.ml.A x.ml.m.bs.length x.ml.c, .int .i64 x.ml.m.sent, .int .i64 x.nw, .int .i64 x.dl] 45)).alloc (.cells #[.slice none 0 0, .int .i64 0, .int .i64 0] 49) = w2 at *
  refine (HRT.out _ HB2.out).mono ?_
  rintro e w3 ⟨A', n', c', ws', rA, rc, rfl, hrr, hW3, hL3, hb3⟩
  have x1 := HX1.out.below hb3 HX1.out.lt
  have kx0 := (x1).cell 0
  have kx1 := (x1).cell 1
  have kx2 := (x1).cell 2
  have kx3 := (x1).cell 3
  have kx4 := (x1).cell 4
  have kx5 := (x1).cell 5
  have kx6 := (x1).cell 6
  have kx7 := (x1).cell 7
  have kx8 := (x1).cell 8
  have kx9 := (x1).cell 9
  simp only [List.getElem?_toArray, List.getElem?_cons_zero, List.getElem?_cons_succ] at kx0 kx1 kx2 kx3 kx4 kx5 kx6 kx7 kx8 kx9
  have hs3 := hb3.size
  go_upto_region 18 with fail
  have xo := (Blk.new w3 49 #[.slice A' n' c', .int .i64 room, .int .i64 lost]).alloc (.cells #[.int .i64 pm.link, .int .i64 pm.frm, .int .i64 pm.dst, .int .u32 pm.src, .slice rA pm.bs.length rc, .int .i64 pm.sent] 33)
  have xm := Blk.new (w3.alloc (.cells #[.slice A' n' c', .int .i64 room, .int .i64 lost] 49)) 33 #[.int .i64 pm.link, .int .i64 pm.frm, .int .i64 pm.dst, .int .u32 pm.src, .slice rA pm.bs.length rc, .int .i64 pm.sent]
  simp only [World.size_alloc] at xm
  have b34 : Below w3.heap.size w3 ((w3.alloc (.cells #[.slice A' n' c', .int .i64 room, .int .i64 lost] 49)).alloc (.cells #[.int .i64 pm.link, .int .i64 pm.frm, .int .i64 pm.dst, .int .u32 pm.src, .slice rA pm.bs.length rc, .int .i64 pm.sent] 33)) := balloc (balloc (Below.refl _ _) _) _
  have x1' := x1.below b34 x1.lt
  have g2 := (HX2.out.below hb3 HX2.out.lt).below b34 (HX2.out.below hb3 HX2.out.lt).lt
  clear kx0 kx1 kx2 kx3 kx4 kx5 kx6 kx7 kx8 kx9
  clear x1
  generalize (w3.alloc (.cells #[.slice A' n' c', .int .i64 room, .int .i64 lost] 49)).alloc (.cells #[.int .i64 pm.link, .int .i64 pm.frm, .int .i64 pm.dst, .int .u32 pm.src, .slice rA pm.bs.length rc, .int .i64 pm.sent] 33) = w4 at *
  have kx0 := (x1').cell 0
  have kx1 := (x1').cell 1
  have kx2 := (x1').cell 2
  have kx3 := (x1').cell 3
  have kx4 := (x1').cell 4
  have kx5 := (x1').cell 5
  have kx6 := (x1').cell 6
  have kx7 := (x1').cell 7
  have kx8 := (x1').cell 8
  have kx9 := (x1').cell 9
  simp only [List.getElem?_toArray, List.getElem?_cons_zero, List.getElem?_cons_succ] at kx0 kx1 kx2 kx3 kx4 kx5 kx6 kx7 kx8 kx9
  have B4 : Below w.heap.size w w4 := bnext (bnext HB2.out hb3) b34
  have hs4 := b34.size
  go_wp2_with fail
  refine (HPT.out _ B4).mono ?_
  rintro e w5 ⟨⟨pA, pc, rfl, h1, h2, h3, h4, h5, h6⟩, hb5⟩
  go_upto_region 19 with fail
  have b45 := hb5
  have hs5 := hb5.size
  have xm5 := (xm.below hb5 xm.lt).alloc (.cells #[.int .i64 pm.link, .int .i64 pm.frm, .int .i64 pm.dst, .int .u32 pm.src, .slice pA pm.bs.length pc, .int .i64 pm.sent] 33)
  have xg5 := (g2.below hb5 g2.lt).alloc (.cells #[.int .i64 pm.link, .int .i64 pm.frm, .int .i64 pm.dst, .int .u32 pm.src, .slice pA pm.bs.length pc, .int .i64 pm.sent] 33)
  have xr5 := (((HX0.out.below hb3 HX0.out.lt).below b34 (HX0.out.below hb3 HX0.out.lt).lt).below hb5 ((HX0.out.below hb3 HX0.out.lt).below b34 (HX0.out.below hb3 HX0.out.lt).lt).lt).alloc (.cells #[.int .i64 pm.link, .int .i64 pm.frm, .int .i64 pm.dst, .int .u32 pm.src, .slice pA pm.bs.length pc, .int .i64 pm.sent] 33)
  have xn5 := Blk.new w5 33 #[.int .i64 pm.link, .int .i64 pm.frm, .int .i64 pm.dst, .int .u32 pm.src, .slice pA pm.bs.length pc, .int .i64 pm.sent]
  have hr5 : Rd w5 w5.heap.size rA (pm.bs.map b8) := ((hrr.rd.below b34).more b34.size |>.below hb5).more hb5.size
  have b55 : Below w5.heap.size w5 (w5.alloc (.cells #[.int .i64 pm.link, .int .i64 pm.frm, .int .i64 pm.dst, .int .u32 pm.src, .slice pA pm.bs.length pc, .int .i64 pm.sent] 33)) := balloc (Below.refl _ _) _
  have HSM := Lib.hid (by
    have h := refsame_any ⟨pm, rA, rc⟩ ⟨pm, pA, pc⟩ (w5.alloc (.cells #[.int .i64 pm.link, .int .i64 pm.frm, .int .i64 pm.dst, .int .u32 pm.src, .slice pA pm.bs.length pc, .int .i64 pm.sent] 33)) ((hr5.below b55).more b55.size) ((h3.below b55).more b55.size)
    simp only [sameM_self, mlA] at h
    exact h)
  have hs55 : (w5.alloc (.cells #[.int .i64 pm.link, .int .i64 pm.frm, .int .i64 pm.dst, .int .u32 pm.src, .slice pA pm.bs.length pc, .int .i64 pm.sent] 33)).heap.size = w5.heap.size + 1 := by simp
  have hS55 : w5.heap.size + 1 ≤ (w5.alloc (.cells #[.int .i64 pm.link, .int .i64 pm.frm, .int .i64 pm.dst, .int .u32 pm.src, .slice pA pm.bs.length pc, .int .i64 pm.sent] 33)).heap.size := Nat.le_of_eq hs55.symm
  clear hs55
  generalize w5.alloc (.cells #[.int .i64 pm.link, .int .i64 pm.frm, .int .i64 pm.dst, .int .u32 pm.src, .slice pA pm.bs.length pc, .int .i64 pm.sent] 33) = w5' at *
  obtain ⟨e0, e1, e2, e3, e4, e5⟩ := xm5.six
  obtain ⟨n0', n1, n2, n3, n4, n5⟩ := xn5.six
  clear kx0 kx1 kx2 kx3 kx4 kx5 kx6 kx7 kx8 kx9
  go_wp2_with fail
  refine HSM.out.mono ?_
  rintro e w6 ⟨rfl, b6⟩
  clear e0 e1 e2 e3 e4 e5 n0' n1 n2 n3 n4 n5
  have XN := Lib.hid (xn5.below b6 xn5.lt)
  have XG := Lib.hid (xg5.below b6 xg5.lt)
  have XR := Lib.hid (xr5.below b6 xr5.lt)
  have b56 := bnext b55 b6
  have HI0 := Lib.hid (IncA.start (h3.below b56) (h5.fr (p := fun _ => True) (Fr.of_below b56) (fun a e => ⟨h6 a e, trivial⟩)))
  have HB := Lib.hid (And.intro hb3 (And.intro b34 (And.intro hb5 b56)))
  have HA := Lib.hid (And.intro h4 h6)
  have HW3 := Lib.hid (show Want w3 (Or' (fun b => p b ∧ b < w.heap.size) w2) A n k ws from ((HW.out.p1 (bnext HB2.out hb3)).mono (fun b hb _ => .inl ⟨hb, by have := hb.2; omega⟩)))
  have hs6 := b6.size
  clear xo xm g2 xm5 xg5 xr5 xn5 x1' hr5 b55 b45 b56 h1 h2 h3 h4 h5 h6 hrr B4 hb3 b34 hb5 b6 hW3 hL3
  generalize hpl : pm.bs.length = pl at *
  have HPL := Lib.hid hpl
  clear hpl
  go_wp2_with fail
  go_loopw [20] (fun i wr => ∃ c : Nat, c ≤ pl ∧ i = .int .i64 c ∧ IncA pA pl w6 wr) (fun i _ => pl - (intOf i).toNat)
  case atStart => exact ⟨0, by omega, rfl, HI0.out⟩
  case round =>
    obtain ⟨c, hc, rfl, hI⟩ := hrel
    have HI := Lib.hid hI
    have xn := XN.out
    have hfr : ∀ q : Nat, (∀ a, pA = some a → q ≠ a.block) → (fun k => ∀ a, pA = some a → k ≠ a.block) q := fun q h => h
    have xnr := hI.1.blk XN.out (hfr _ (fun a e => by have := HA.out.2 a e; omega))
    have xgr := hI.1.blk XG.out (hfr _ (fun a e => by have := HA.out.1 a e; omega))
    have xrr := hI.1.blk XR.out (hfr _ (fun a e => by have := HA.out.1 a e; omega))
    clear hfr xn
    by_cases hlt : c < pl
    · obtain ⟨b, off, z, he, hz, hf⟩ := hI.at hlt
      have HE := Lib.hid he
      subst he
      have hi1 : (c : Int) < (pl : Int) := by omega
      have n4 := xnr.cell 4
      simp only [List.getElem?_toArray, List.getElem?_cons_zero, List.getElem?_cons_succ] at n4
      clear hI xnr xgr xrr
      go_wp2_with fail
      go_roundw
      case rel => exact ⟨c + 1, by omega, by go_num, HI.out.step hlt _⟩
      case measure => simp [intOf]; omega
    · obtain rfl : c = pl := by omega
      have n4 := xnr.cell 4
      simp only [List.getElem?_toArray, List.getElem?_cons_zero, List.getElem?_cons_succ] at n4
      clear hI
      go_upto_region 24 with fail
      obtain ⟨z0, z1, z2⟩ := xgr.three
      obtain ⟨y0, y1, y2⟩ := xgr.ice3
      obtain ⟨d0, d1, d2⟩ := xrr.three
      have S0 : C3 w.heap.size (.slice A n k) (.int .i64 room) (.int .i64 lost) wr.drew := ⟨d0, d1, d2⟩
      have Q3 := Lib.hid (show w.heap.size + 1 + 1 ≠ w.heap.size by omega)
      go_region_held3 (fun W => C3 w.heap.size (.slice A n k) (.int .i64 room) (.int .i64 lost) W) (first | exact S0 | exact c3_far _ _ _ S0 Q3.out)
        (first
        | (go_at_call 10; refine (num19_any _ _).mono ?_; rintro e w' ⟨rfl, rfl⟩))
      go_wp2
      refine bodyPost_ret (v := .tuple #[.pointer (some ⟨g, 0, none⟩), .agg #[.slice A n k, .int .i64 room, .int .i64 lost], .bool true]) (by simp [results, Try.results19, go_sem, z0, z1, z2]) rfl ?_
      have B4' : Below w.heap.size w w4 := bnext (bnext HB2.out HB.out.1) HB.out.2.1
      refine act_fin HF.out HB2.out HB.out.1 HB.out.2.1 (Goes.stay (HF.out.below B4') (Below.refl _ _)) (fun x h => .inl h) ?_ HW3.out (fun b hb => HP.out b hb) HMS.out
      have hs24 := HB.out.2.1.size
      have fI : Fr (fun q => q < w.heap.size ∨ (w2.heap.size ≤ q ∧ q < w4.heap.size)) w6 wr := HI.out.1.mono (fun b _ hb a e => by have := HA.out.1 a e; omega)
      exact (((((Fr.of_below (bnext HB.out.2.2.1 HB.out.2.2.2)).trans fI).trans (Fr.drewN 1)).putG (by omega) 0 _).putG (by omega) 1 _).putG (by omega) 2 _
end Go.Proofs.Ytgdkobknjgbdbaa
