/- config: what may be. -/
import Derived.Test.YtgjeejdebneoaaaDoorCfg3
import Derived.Test.YtgjeejdebneoaaaDoorEnt4
namespace Go.Proofs.YtgjeejdebneoaaaDoor
set_option linter.unusedVariables false
set_option linter.unusedSimpArgs false
open Go.RowKit
set_option maxRecDepth 100000

/-- the bounds of Cap lie where the program laid them -/
def CapsAt (w : World) : Prop := w.cell? ⟨0, 0, none⟩ = some (.int .i64 1) ∧ w.cell? ⟨0, 1, none⟩ = some (.int .i64 256)
theorem CapsAt.below {w w' : World} (h : CapsAt w) (hb : Below w.heap.size w w') : CapsAt w' :=
  ⟨(hb.cell (p := ⟨0, 0, none⟩) (cell_lt h.1)).trans h.1, (hb.cell (p := ⟨0, 1, none⟩) (cell_lt h.2)).trans h.2⟩
theorem CapsAt.drewN {w : World} (h : CapsAt w) (n : Nat) : CapsAt (w.drewN n) := h

theorem enterS (i : Nat) (hi : i < 7) (args : Array Value) (w : World) : (callFunc (fnS i) args).run Tryd.prog w = .ok (.enter (fnS i) args) w := by
  rcases (by omega : i = 0 ∨ i = 1 ∨ i = 2 ∨ i = 3 ∨ i = 4 ∨ i = 5 ∨ i = 6) with rfl | rfl | rfl | rfl | rfl | rfl | rfl <;> kernel_rfl
/-- may the span at a place be? -/
def okS (i : Nat) (p j t h g q s : Int) : Bool := decide (lstS i ≤ spanS i p j t h g q s ∧ spanS i p j t h g q s ≤ 1000000)
/-- may the prefix at a place be owned? -/
def okO (l : List (Nat × Int)) (i : Nat) : Bool := okOf (l.getD i (0, 0)).1 (l.getD i (0, 0)).2 1 && !decide (l.getD i (0, 0) ∈ l.take i)
def okOwn (l : List (Nat × Int)) : Bool := (List.range l.length).all (okO l)
/-- may a configuration be? -/
def okC (p j t h g q s cp : Int) (l : List (Nat × Int)) : Bool := (List.range 7).all (fun i => okS i p j t h g q s) && decide (1 ≤ cp ∧ cp ≤ 256) && decide ((l.length : Int) ≤ 16 ∧ (l.length : Int) ≤ cp) && okOwn l
/-- how a look at a configuration ends -/
def mustE (ok : Bool) : Ending := if ok then .returned (.tuple #[]) else .panicked [{ v := .iface 119 (.int .i64 2), recovered := false }]

theorem okC_span {p j t h g q s cp : Int} {l : List (Nat × Int)} {i : Nat} (hi : i < 7) (ho : okS i p j t h g q s = false) : okC p j t h g q s cp l = false := by
  cases hx : okC p j t h g q s cp l
  · rfl
  · simp only [okC, Bool.and_eq_true, decide_eq_true_eq, List.all_eq_true, List.mem_range] at hx
    rw [hx.1.1.1 i hi] at ho; cases ho
theorem okC_cap {p j t h g q s cp : Int} {l : List (Nat × Int)} (ho : ¬ (1 ≤ cp ∧ cp ≤ 256)) : okC p j t h g q s cp l = false := by
  cases hx : okC p j t h g q s cp l
  · rfl
  · simp only [okC, Bool.and_eq_true, decide_eq_true_eq, List.all_eq_true, List.mem_range] at hx
    exact absurd hx.1.1.2 ho
theorem okC_len {p j t h g q s cp : Int} {l : List (Nat × Int)} (ho : ¬ ((l.length : Int) ≤ 16 ∧ (l.length : Int) ≤ cp)) : okC p j t h g q s cp l = false := by
  cases hx : okC p j t h g q s cp l
  · rfl
  · simp only [okC, Bool.and_eq_true, decide_eq_true_eq, List.all_eq_true, List.mem_range] at hx
    exact absurd hx.1.2 ho
theorem okC_own {p j t h g q s cp : Int} {l : List (Nat × Int)} {i : Nat} (hi : i < l.length) (ho : okO l i = false) : okC p j t h g q s cp l = false := by
  cases hx : okC p j t h g q s cp l
  · rfl
  · simp only [okC, okOwn, Bool.and_eq_true, decide_eq_true_eq, List.all_eq_true, List.mem_range] at hx
    rw [hx.2 i hi] at ho; cases ho
theorem okC_all {p j t h g q s cp : Int} {l : List (Nat × Int)} (h1 : ∀ i, i < 7 → okS i p j t h g q s = true) (h2 : 1 ≤ cp ∧ cp ≤ 256) (h3 : (l.length : Int) ≤ 16 ∧ (l.length : Int) ≤ cp) (h4 : ∀ i, i < l.length → okO l i = true) : okC p j t h g q s cp l = true := by
  simp only [okC, okOwn, Bool.and_eq_true, decide_eq_true_eq, List.all_eq_true, List.mem_range]
  exact ⟨⟨⟨h1, h2⟩, h3⟩, h4⟩
theorem okS_yes {i : Nat} {p j t h g q s : Int} (ho : okS i p j t h g q s = true) : (max (lstS i) (min (spanS i p j t h g q s) 1000000) != spanS i p j t h g q s) = false := by
  have := of_decide_eq_true ho
  simp; omega
theorem okS_no {i : Nat} {p j t h g q s : Int} (ho : okS i p j t h g q s = false) : (max (lstS i) (min (spanS i p j t h g q s) 1000000) != spanS i p j t h g q s) = true := by
  have h1 := of_decide_eq_false ho
  have h3 : lstS i ≤ 1 := by unfold lstS; split <;> omega
  simp
  omega

set_option maxHeartbeats 4000000 in
theorem mustBe_any (p j t h g q s cp : Int) (A : Option Addr) (n k B : Nat) (l : List (Nat × Int)) (hn : l.length = n) (w : World) (hr : Rd w B A (plC l)) (hB : B ≤ w.heap.size) (hnk : n ≤ k) (hk : k ≤ 9223372036854775807) (hl : ∀ x ∈ l, x.1 < 4294967296) (hw : CapsAt w) :
    Calls Tryd.prog 72 #[.agg #[.int .i64 p, .int .i64 j, .int .i64 t, .int .i64 h, .int .i64 g, .int .i64 q, .int .i64 s, .int .i64 cp, .slice A n k]] w fun e w' => e = mustE (okC p j t h g q s cp l) ∧ Below w.heap.size w w' := by
  have HR := Lib.hid hr
  have HN := Lib.hid hn
  have HL := Lib.hid hl
  have HW := Lib.hid hw
  clear hr hn hl hw
  go_enter Tryd.func72, Tryd.ntmps72
  go_wp2_with fail
  refine (spans_any _).mono ?_
  rintro e w0 ⟨rfl, hT, hb0⟩
  have hK := (Blk.new w 107 #[.int .i64 p, .int .i64 j, .int .i64 t, .int .i64 h, .int .i64 g, .int .i64 q, .int .i64 s, .int .i64 cp, .slice A n k]).below hb0 (by simp)
  have hb0' := bnext (balloc (Below.refl _ w) _) hb0
  simp only [World.size_alloc] at hT
  clear hb0
  go_wp2_with fail
  go_loopw [11] (fun i wr => ∃ c : Nat, c ≤ 7 ∧ i = .int .i64 c ∧ Below w0.heap.size w0 wr ∧ ∀ i, i < c → okS i p j t h g q s = true) (fun i _ => 7 - (intOf i).toNat)
  case atStart => exact ⟨0, by omega, rfl, Below.refl _ _, fun i hi => by omega⟩
  case round =>
    obtain ⟨c, hc, rfl, hb, hok⟩ := hrel
    have HO := Lib.hid hok
    clear hok
    have hT1 := hT.below hb hT.lt
    have hK1 := hK.below hb hK.lt
    by_cases hlt : c < 7
    · have a0 := hT1.cell (c * 3)
      have a1 := hT1.cell (c * 3 + 1)
      have a2 := hT1.cell (c * 3 + 2)
      have ht := tabS_at 7 c hlt
      rw [ht.1] at a0
      rw [ht.2.1] at a1
      rw [ht.2.2] at a2
      rw [if_pos hlt] at a0
      have c0 := (hK1).cell 0
      have c1 := (hK1).cell 1
      have c2 := (hK1).cell 2
      have c3 := (hK1).cell 3
      have c4 := (hK1).cell 4
      have c5 := (hK1).cell 5
      have c6 := (hK1).cell 6
      have c7 := (hK1).cell 7
      have c8 := (hK1).cell 8
      simp only [List.getElem?_toArray, List.getElem?_cons_zero, List.getElem?_cons_succ] at c0 c1 c2 c3 c4 c5 c6 c7 c8
      have hsz := hK1.lt
      have hcall := fun W => spanOf_any c p j t h g q s cp A n k W hlt
      have hent := enterS c hlt
      generalize hnm : nmS c = nm at *
      have hy := okS_yes (i := c) (p := p) (j := j) (t := t) (h := h) (g := g) (q := q) (s := s)
      have hz := okS_no (i := c) (p := p) (j := j) (t := t) (h := h) (g := g) (q := q) (s := s)
      generalize hsp : spanS c p j t h g q s = sp at *
      generalize hls : lstS c = ls at *
      generalize hfn : fnS c = fn at *
      have CC := Lib.hid hcall
      have HY := Lib.hid hy
      have HZ := Lib.hid hz
      clear hcall hnm hfn hsp hls hy hz ht hT1 hK1
      cases hokc : okS c p j t h g q s
      · have hcmp := HZ.out hokc
        have HK := Lib.hid hokc
        clear hokc
        go_wp2_with fail
        refine (CC.out _).mono ?_
        rintro e w2 ⟨rfl, rfl⟩
        go_wp2_with (go_at_call 79; refine (clamped_any _ _ _ _).mono ?_; rintro e w' ⟨rfl, rfl⟩)
        exact ⟨rfl, by rw [okC_span hlt HK.out]; rfl, balloc (balloc (bnext hb0' hb) _) _⟩
      · have hcmp := HY.out hokc
        have HK := Lib.hid hokc
        clear hokc
        go_wp2_with fail
        refine (CC.out _).mono ?_
        rintro e w2 ⟨rfl, rfl⟩
        go_wp2_with (go_at_call 79; refine (clamped_any _ _ _ _).mono ?_; rintro e w' ⟨rfl, rfl⟩)
        go_roundw
        case rel =>
          refine ⟨c + 1, by omega, by go_num, balloc (balloc hb _) _, fun i hi => ?_⟩
          by_cases hic : i < c
          · exact HO.out i hic
          · obtain rfl : i = c := by omega
            exact HK.out
        case measure => simp [intOf]; omega
    · obtain rfl : c = 7 := by omega
      have hB7 := bnext hb0' hb
      have hcb := HW.out.below hB7
      obtain ⟨k0, k1⟩ := hcb
      have c0 := (hK1).cell 0
      have c1 := (hK1).cell 1
      have c2 := (hK1).cell 2
      have c3 := (hK1).cell 3
      have c4 := (hK1).cell 4
      have c5 := (hK1).cell 5
      have c6 := (hK1).cell 6
      have c7 := (hK1).cell 7
      have c8 := (hK1).cell 8
      simp only [List.getElem?_toArray, List.getElem?_cons_zero, List.getElem?_cons_succ] at c0 c1 c2 c3 c4 c5 c6 c7 c8
      have hsz := hK1.lt
      have hsz0 := hB7.size
      have HB7 := Lib.hid hB7
      have HK1 := Lib.hid hK1
      clear hT1 hT hK hb hB7 hK1
      by_cases hcp : 1 ≤ cp ∧ cp ≤ 256
      case neg =>
        have hcc : (max 1 (min cp 256) != cp) = true := by simp; omega
        have HX := Lib.hid hcp
        clear hcp
        go_wp2_with fail
        go_quiet ((go_at_call 80; exact q_same (clampedI_any _ _ _ _)))
        go_wp2_with fail
        exact ⟨rfl, by rw [okC_cap HX.out]; rfl, below_drewN HB7.out _⟩
      case pos =>
      have hcc : (max 1 (min cp 256) != cp) = false := by simp; omega
      obtain ⟨mm, hmm⟩ : ∃ mm, min (16 : Int) cp = mm := ⟨_, rfl⟩
      have HX := Lib.hid hcp
      by_cases hln : mm < (n : Int)
      case pos =>
        have HXL := Lib.hid (show ¬ ((l.length : Int) ≤ 16 ∧ (l.length : Int) ≤ cp) by rw [HN.out]; omega)
        clear hcp
        go_wp2_with fail
        go_quiet ((go_at_call 80; exact q_same (clampedI_any _ _ _ _)))
        go_wp2_with fail
        exact ⟨rfl, by rw [okC_len HXL.out]; rfl, below_drewN HB7.out _⟩
      case neg =>
      have HXL := Lib.hid (show (l.length : Int) ≤ 16 ∧ (l.length : Int) ≤ cp by rw [HN.out]; omega)
      have hn16 : n ≤ 16 := by omega
      clear hcp
      go_wp2_with fail
      go_quiet ((go_at_call 80; exact q_same (clampedI_any _ _ _ _)))
      go_wp2_with fail
      obtain ⟨wq, rfl⟩ : ∃ x, x = wr := ⟨_, rfl⟩
      go_loopw [55] (fun i wr' => ∃ c : Nat, c ≤ n ∧ i = .int .i64 c ∧ Below wq.heap.size wq wr' ∧ ∀ i, i < c → okO l i = true) (fun i _ => n - (intOf i).toNat)
      case atStart => exact ⟨0, by omega, rfl, below_drewN (Below.refl _ _) _, fun i hi => by omega⟩
      case round =>
        obtain ⟨c, hc', rfl, hb, hok⟩ := hrel
        have HO2 := Lib.hid hok
        have HK2 := Lib.hid (HK1.out.below hb HK1.out.lt)
        have HB8 := Lib.hid (bnext HB7.out hb)
        have HBQ := Lib.hid hb
        have hwz : w.heap.size < wr.heap.size := HK2.out.lt
        clear hok hb k0 k1
        clear c0 c1 c2 c3 c4 c5 c6 c7 c8
        by_cases hlt2 : c < n
        · have hcl : c < l.length := by have := HN.out; omega
          obtain ⟨b, off, rfl, hbb, x0, x1⟩ := pl_at HR.out (List.getElem?_eq_getElem hcl)
          have y0 := (HB8.out.cell (p := ⟨b, off + c * 2, none⟩) (by show b < _; omega)).trans x0
          have y1 := (HB8.out.cell (p := ⟨b, off + (c * 2 + 1), none⟩) (by show b < _; omega)).trans x1
          rw [← Nat.add_assoc] at y1
          have hgd : l.getD c (0, 0) = l[c] := by simp [List.getD, List.getElem?_eq_getElem hcl]
          have hO : okO l c = (okOf l[c].1 l[c].2 1 && !decide (l[c] ∈ l.take c)) := by unfold okO; rw [hgd]
          have hx := HL.out l[c] (List.getElem_mem hcl)
          have hrt : Rd w B (some ⟨b, off, none⟩) (plC (l.take c)) := by
            have h := HR.out
            rw [← List.take_append_drop c l, plC_append] at h
            exact h.pre
          have HRT := Lib.hid hrt
          clear hgd x0 x1 hrt
          generalize l[c] = y at *
          obtain ⟨ya, ym⟩ := y
          simp only at y0 y1 hO hx
          have hcall := fun W => of_any ya ym 1 W hx (by omega)
          unfold ofV at hcall
          generalize maskF ym.toNat = mk at *
          cases hof : okOf ya ym 1
          · rw [hof] at hcall hO
            simp only [Bool.false_eq_true, if_false, Bool.false_and] at hcall hO
            have CO := Lib.hid hcall
            have HOO := Lib.hid hO
            clear hcall hO hof
            go_wp2_with fail
            refine (CO.out _).mono ?_
            rintro e w2 ⟨rfl, hb2⟩
            have hP := ((Blk.new wr 28 #[.int .u32 ya, .int .i64 ym]).below hb2 (by simp)).alloc (.cells #[.int .i64 0, .int .i64 0, .int .u32 0, .int .u32 0, .int .u32 0, .int .u32 0] 98)
            have hK3 := ((HK2.out.alloc (.cells #[.int .u32 ya, .int .i64 ym] 28)).below hb2 (by simp; omega)).alloc (.cells #[.int .i64 0, .int .i64 0, .int .u32 0, .int .u32 0, .int .u32 0, .int .u32 0] 98)
            have hB9 : Below w.heap.size w (w2.alloc (.cells #[.int .i64 0, .int .i64 0, .int .u32 0, .int .u32 0, .int .u32 0, .int .u32 0] 98)) := balloc (bnext (balloc HB8.out (.cells #[.int .u32 ya, .int .i64 ym] 28)) hb2) _
            have hB10 : Below wr.heap.size wr (w2.alloc (.cells #[.int .i64 0, .int .i64 0, .int .u32 0, .int .u32 0, .int .u32 0, .int .u32 0] 98)) := balloc (bnext (balloc (Below.refl _ wr) (.cells #[.int .u32 ya, .int .i64 ym] 28)) hb2) _
            clear hb2
            go_wp2_with fail
            obtain ⟨W3, hW3⟩ : ∃ W3, W3 = w2.alloc (.cells #[.int .i64 0, .int .i64 0, .int .u32 0, .int .u32 0, .int .u32 0, .int .u32 0] 98) := ⟨_, rfl⟩
            rw [← hW3] at hP hK3 hB9 hB10 ⊢
            clear hW3
            have d0 := fun v : Sub W3 => ((hP).below v.2 (hP).lt).cell 0
            have d1 := fun v : Sub W3 => ((hP).below v.2 (hP).lt).cell 1
            simp only [List.getElem?_toArray, List.getElem?_cons_zero, List.getElem?_cons_succ] at d0 d1
            have e8 := fun v : Sub W3 => (hK3.below v.2 hK3.lt).cell 8
            simp only [List.getElem?_toArray, List.getElem?_cons_zero, List.getElem?_cons_succ] at e8
            have hne : Nonempty (Sub W3) := ⟨⟨_, Below.refl _ _⟩⟩
            have HCT := Lib.hid (fun v : Sub W3 => contains_any (l.take c) c (by simp; omega) (some ⟨b, off, none⟩) k B ya ym v.1 (HRT.out.below ((bnext hB9 v.2).mono hB)) (by have := (bnext hB9 v.2).size; omega) (by omega))
            clear hP hK3
            refine region_sub (by kernel_rfl) (by kernel_rfl) ?_
            repeat (first | go_big_quiet_step (((fail))) | quiet_step (((fail))))
            refine wpQuiet_nil ?_
            rintro _ ⟨v, rfl⟩
            go_wp2_with fail
            exact ⟨rfl, by rw [okC_own hcl HOO.out]; rfl, bnext hB9 v.2⟩
          · rw [hof] at hcall hO
            simp only [if_true, Bool.true_and] at hcall hO
            have CO := Lib.hid hcall
            have HOO := Lib.hid hO
            clear hcall hO hof
            cases hmem : decide ((ya, ym) ∈ l.take c)
            all_goals rw [hmem] at HOO
            case false =>
              go_wp2_with fail
              refine (CO.out _).mono ?_
              rintro e w2 ⟨rfl, hb2⟩
              have hP := ((Blk.new wr 28 #[.int .u32 ya, .int .i64 ym]).below hb2 (by simp)).alloc (.cells #[.int .i64 2, .int .i64 0, .int .u32 ya, .int .u32 mk, .int .u32 0, .int .u32 1] 98)
              have hK3 := ((HK2.out.alloc (.cells #[.int .u32 ya, .int .i64 ym] 28)).below hb2 (by simp; omega)).alloc (.cells #[.int .i64 2, .int .i64 0, .int .u32 ya, .int .u32 mk, .int .u32 0, .int .u32 1] 98)
              have hB9 : Below w.heap.size w (w2.alloc (.cells #[.int .i64 2, .int .i64 0, .int .u32 ya, .int .u32 mk, .int .u32 0, .int .u32 1] 98)) := balloc (bnext (balloc HB8.out (.cells #[.int .u32 ya, .int .i64 ym] 28)) hb2) _
              have hB10 : Below wr.heap.size wr (w2.alloc (.cells #[.int .i64 2, .int .i64 0, .int .u32 ya, .int .u32 mk, .int .u32 0, .int .u32 1] 98)) := balloc (bnext (balloc (Below.refl _ wr) (.cells #[.int .u32 ya, .int .i64 ym] 28)) hb2) _
              clear hb2
              go_wp2_with fail
              obtain ⟨W3, hW3⟩ : ∃ W3, W3 = w2.alloc (.cells #[.int .i64 2, .int .i64 0, .int .u32 ya, .int .u32 mk, .int .u32 0, .int .u32 1] 98) := ⟨_, rfl⟩
              rw [← hW3] at hP hK3 hB9 hB10 ⊢
              clear hW3
              have d0 := fun v : Sub W3 => ((hP).below v.2 (hP).lt).cell 0
              have d1 := fun v : Sub W3 => ((hP).below v.2 (hP).lt).cell 1
              simp only [List.getElem?_toArray, List.getElem?_cons_zero, List.getElem?_cons_succ] at d0 d1
              have e8 := fun v : Sub W3 => (hK3.below v.2 hK3.lt).cell 8
              simp only [List.getElem?_toArray, List.getElem?_cons_zero, List.getElem?_cons_succ] at e8
              have hne : Nonempty (Sub W3) := ⟨⟨_, Below.refl _ _⟩⟩
              have HCT := Lib.hid (fun v : Sub W3 => contains_any (l.take c) c (by simp; omega) (some ⟨b, off, none⟩) k B ya ym v.1 (HRT.out.below ((bnext hB9 v.2).mono hB)) (by have := (bnext hB9 v.2).size; omega) (by omega))
              clear hP hK3
              rw [hmem] at HCT
              refine region_sub (by kernel_rfl) (by kernel_rfl) ?_
              repeat (first | go_big_quiet_step (((go_at_call 81; exact sub_below (HCT.out _)))) | quiet_step (((go_at_call 81; exact sub_below (HCT.out _)))))
              refine wpQuiet_nil ?_
              rintro _ ⟨v, rfl⟩
              go_wp2_with fail
              go_roundw
              case rel =>
                refine ⟨c + 1, by omega, by go_num, bnext HBQ.out (bnext hB10 v.2), fun i hi => ?_⟩
                by_cases hic : i < c
                · exact HO2.out i hic
                · obtain rfl : i = c := by omega
                  exact HOO.out
              case measure => simp [intOf]; omega
            case true =>
              go_wp2_with fail
              refine (CO.out _).mono ?_
              rintro e w2 ⟨rfl, hb2⟩
              have hP := ((Blk.new wr 28 #[.int .u32 ya, .int .i64 ym]).below hb2 (by simp)).alloc (.cells #[.int .i64 2, .int .i64 0, .int .u32 ya, .int .u32 mk, .int .u32 0, .int .u32 1] 98)
              have hK3 := ((HK2.out.alloc (.cells #[.int .u32 ya, .int .i64 ym] 28)).below hb2 (by simp; omega)).alloc (.cells #[.int .i64 2, .int .i64 0, .int .u32 ya, .int .u32 mk, .int .u32 0, .int .u32 1] 98)
              have hB9 : Below w.heap.size w (w2.alloc (.cells #[.int .i64 2, .int .i64 0, .int .u32 ya, .int .u32 mk, .int .u32 0, .int .u32 1] 98)) := balloc (bnext (balloc HB8.out (.cells #[.int .u32 ya, .int .i64 ym] 28)) hb2) _
              have hB10 : Below wr.heap.size wr (w2.alloc (.cells #[.int .i64 2, .int .i64 0, .int .u32 ya, .int .u32 mk, .int .u32 0, .int .u32 1] 98)) := balloc (bnext (balloc (Below.refl _ wr) (.cells #[.int .u32 ya, .int .i64 ym] 28)) hb2) _
              clear hb2
              go_wp2_with fail
              obtain ⟨W3, hW3⟩ : ∃ W3, W3 = w2.alloc (.cells #[.int .i64 2, .int .i64 0, .int .u32 ya, .int .u32 mk, .int .u32 0, .int .u32 1] 98) := ⟨_, rfl⟩
              rw [← hW3] at hP hK3 hB9 hB10 ⊢
              clear hW3
              have d0 := fun v : Sub W3 => ((hP).below v.2 (hP).lt).cell 0
              have d1 := fun v : Sub W3 => ((hP).below v.2 (hP).lt).cell 1
              simp only [List.getElem?_toArray, List.getElem?_cons_zero, List.getElem?_cons_succ] at d0 d1
              have e8 := fun v : Sub W3 => (hK3.below v.2 hK3.lt).cell 8
              simp only [List.getElem?_toArray, List.getElem?_cons_zero, List.getElem?_cons_succ] at e8
              have hne : Nonempty (Sub W3) := ⟨⟨_, Below.refl _ _⟩⟩
              have HCT := Lib.hid (fun v : Sub W3 => contains_any (l.take c) c (by simp; omega) (some ⟨b, off, none⟩) k B ya ym v.1 (HRT.out.below ((bnext hB9 v.2).mono hB)) (by have := (bnext hB9 v.2).size; omega) (by omega))
              clear hP hK3
              rw [hmem] at HCT
              refine region_sub (by kernel_rfl) (by kernel_rfl) ?_
              repeat (first | go_big_quiet_step (((go_at_call 81; exact sub_below (HCT.out _)))) | quiet_step (((go_at_call 81; exact sub_below (HCT.out _)))))
              refine wpQuiet_nil ?_
              rintro _ ⟨v, rfl⟩
              go_wp2_with fail
              exact ⟨rfl, by rw [okC_own hcl HOO.out]; rfl, bnext hB9 v.2⟩
        · obtain rfl : c = n := by omega
          go_wp2_with fail
          go_end0
          refine ⟨?_, HB8.out⟩
          rw [okC_all HO.out HX.out HXL.out (by rw [HN.out]; exact HO2.out)]
          rfl
end Go.Proofs.YtgjeejdebneoaaaDoor
