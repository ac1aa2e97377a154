/- RouteHolds: the walk. -/
import Derived.Test.YtgjeejdebneoaaaDoorRoI
import Derived.Test.YtgjeejdebneoaaaDoorRoL
import Derived.Deep.CutRange
import Derived.Great.BuildSlice
import Derived.Laws.CopyOwn
import Derived.Deep.CutBlock
namespace Go.Proofs.YtgjeejdebneoaaaDoor
set_option linter.unusedVariables false
set_option linter.unusedSimpArgs false
open Go.RowKit
set_option maxRecDepth 100000
structure Ac11 where
  wh : Int
  hf : Int
  hx : Nat
  hm : Int
  mo : Int
def acL11 (x : Ac11) : List Value := [.int .i64 x.wh, .int .i64 x.hf, .int .u32 x.hx, .int .i64 x.hm, .int .i64 x.mo]
theorem acL11_len (x : Ac11) : (acL11 x).length = 5 := rfl
theorem ac_at {w : World} {B : Nat} {A : Option Addr} {zs : List Ac11} (q : Rd w B A (zs.flatMap acL11)) {i : Nat} {y : Ac11} (hi : zs[i]? = some y) :
    ∃ b off, A = some ⟨b, off, none⟩ ∧ b < B ∧ w.cell? ⟨b, off + i * 5, none⟩ = some (.int .i64 y.wh) ∧ w.cell? ⟨b, off + i * 5 + 1, none⟩ = some (.int .i64 y.hf) ∧ w.cell? ⟨b, off + i * 5 + 2, none⟩ = some (.int .u32 y.hx) ∧ w.cell? ⟨b, off + i * 5 + 3, none⟩ = some (.int .i64 y.hm) ∧ w.cell? ⟨b, off + i * 5 + 4, none⟩ = some (.int .i64 y.mo) := by
  have hl : i < zs.length := (List.getElem?_eq_some_iff.1 hi).1
  obtain ⟨b, off, hA, hb, hc⟩ := q (by rw [rows_len acL11_len]; omega)
  refine ⟨b, off, hA, hb, ?_, ?_, ?_, ?_, ?_⟩
  · exact hc (i * 5) _ (rows_get acL11_len zs i y 0 hi (by omega))
  all_goals
    rw [Nat.add_assoc]
    exact hc _ _ (rows_get acL11_len zs i y _ hi (by omega))
theorem ne_pfx11 (a b n m : Int) (w : World) : (binOp .neq 28 (.agg #[.int .u32 a, .int .i64 n]) (.agg #[.int .u32 b, .int .i64 m])).run Tryd.prog w = .ok (.bool (!(a == b && n == m))) w := by
  have h1 : Tryd.prog.underlying 28 = some (.struct (Tryd.prog.fieldsOf 28)) := by simp [Program.fieldsOf, Tryd.underlying28]
  have h2 := run_equalIn_struct (P := Tryd.prog) w 9999 28 #[.int .u32 a, .int .i64 n] #[.int .u32 b, .int .i64 m] h1 (by kernel_rfl)
  simp only [binOp]
  simp only [Op.equal, Op.maxDepth, Sem.run_bind, h2]
  by_cases ha : a = b <;> by_cases hn : n = m <;> simp [go_sem, ha, hn]
theorem exp_Q (h g d0 at1 : Int) (r : Rt) (ha : d0 ≤ at1) (q : (r.st = 2 ∧ at1 = d0 ∧ r.du = d0) ∨ (r.st = 3 ∧ r.du = d0 + h) ∨ (r.st = 4 ∧ d0 + h + g ≤ r.du) ∨ (r.st = 0 ∧ d0 + h + g ≤ at1)) :
    (((expR h g r at1).st = 2 ∧ at1 = d0 ∧ (expR h g r at1).du = d0) ∨ ((expR h g r at1).st = 3 ∧ (expR h g r at1).du = d0 + h) ∨ ((expR h g r at1).st = 4 ∧ d0 + h + g ≤ (expR h g r at1).du) ∨ ((expR h g r at1).st = 0 ∧ d0 + h + g ≤ at1)) ∧ (expR h g r at1).st ≠ 2 := by
  rcases q with ⟨q1, q2, q3⟩ | ⟨q1, q2⟩ | ⟨q1, q2⟩ | ⟨q1, q2⟩
  · have e : expR h g r at1 = lostR h r at1 := by
      unfold expR
      rw [if_neg (by rintro (k | k) <;> first | omega | (rw [q1] at k; cases k)), if_pos q1]
    rw [e]
    exact ⟨Or.inr (Or.inl ⟨rfl, by show at1 + h = _; omega⟩), show (3 : Int) ≠ 2 by decide⟩
  · by_cases hd : at1 < r.du
    · have e : expR h g r at1 = r := if_pos (Or.inr hd)
      rw [e]
      exact ⟨Or.inr (Or.inl ⟨q1, q2⟩), by omega⟩
    · have e : expR h g r at1 = { r with st := 4, lo := 0, du := at1 + g } := by
        unfold expR
        rw [if_neg (by rintro (k | k) <;> first | exact hd k | (rw [q1] at k; cases k)), if_neg (by omega), if_pos q1]
      rw [e]
      exact ⟨Or.inr (Or.inr (Or.inl ⟨rfl, by show _ ≤ at1 + g; omega⟩)), show (4 : Int) ≠ 2 by decide⟩
  · by_cases hd : at1 < r.du
    · have e : expR h g r at1 = r := if_pos (Or.inr hd)
      rw [e]
      exact ⟨Or.inr (Or.inr (Or.inl ⟨q1, q2⟩)), by omega⟩
    · have e : expR h g r at1 = { rz with a := r.a, m := r.m } := by
        unfold expR
        rw [if_neg (by rintro (k | k) <;> first | exact hd k | (rw [q1] at k; cases k)), if_neg (by omega), if_neg (by omega)]
      rw [e]
      exact ⟨Or.inr (Or.inr (Or.inr ⟨rfl, by omega⟩)), show (0 : Int) ≠ 2 by decide⟩
  · have e : expR h g r at1 = r := if_pos (Or.inl (by rw [q1]; rfl))
    rw [e]
    exact ⟨Or.inr (Or.inr (Or.inr ⟨q1, q2⟩)), by omega⟩
theorem kept_c1 {he : Bool} {hf : Int} {hx : Nat} {hm : Int} {r r' : Rt} (q : Kept he hf hx hm r r') :
    ((r'.st == 2) && ((r'.me != r.me) || (r'.fa != r.fa) || ((r'.nx : Int) != r.nx) || (r.st != 2)) && !(he && (r'.fa == hf) && ((r'.nx : Int) == hx) && (r'.me == hm + 1))) = false := by
  rw [Bool.eq_false_iff]
  intro hq
  simp only [Bool.and_eq_true, Bool.or_eq_true, beq_iff_eq, bne_iff_ne, Bool.not_eq_true', ne_eq] at hq
  obtain ⟨⟨h1, h2⟩, h3⟩ := hq
  obtain ⟨k1, k2, k3, k4⟩ := q.1 h1 (by omega)
  rw [k1, k2, k3, k4] at h3
  simp at h3
theorem kept_c2 {he : Bool} {hf : Int} {hx : Nat} {hm : Int} {r r' : Rt} (q : Kept he hf hx hm r r') :
    (((r.st == 2) && (r'.st == 2) && he && (r'.fa == hf) && ((r'.nx : Int) == hx) && (r'.me != hm + 1)) || ((r.st == 3) && (r'.st == 2) && decide (r.lo ≤ r'.me))) = false := by
  rw [Bool.eq_false_iff]
  intro hq
  simp only [Bool.and_eq_true, Bool.or_eq_true, beq_iff_eq, bne_iff_ne, decide_eq_true_eq, ne_eq] at hq
  rcases hq with ⟨⟨⟨⟨⟨h1, h2⟩, h3⟩, h4⟩, h5⟩, h6⟩ | ⟨⟨h1, h2⟩, h3⟩
  · exact h6 (q.2.1 h1 h2 h3 h4 (by omega))
  · have := q.2.2 h1 h2
    omega

set_option maxHeartbeats 40000000 in
theorem routeholds_walk (p j t h g q s cp : Int) (A : Option Addr) (n k B : Nat) (l : List (Nat × Int)) (hn : l.length = n) (pa : Nat) (pm : Int) (zs : List Ac11) (N : Nat) (hN : zs.length = N) (Az : Option Addr) (cz : Nat) (w : World) (hr : Rd w B A (plC l)) (hB : B ≤ w.heap.size) (hnk : n ≤ k) (hk : k ≤ 9223372036854775807) (hl : ∀ x ∈ l, x.1 < 4294967296) (hw : CapsAt w) (hpa : pa < 4294967296) (hz : Rd w w.heap.size Az (zs.flatMap acL11)) (hzc : N ≤ cz) (hcz : cz ≤ 9223372036854775807) (hfit : ∀ x ∈ zs, x.hx < 4294967296) :
    Calls Tryd.prog 7 #[.agg #[.int .i64 p, .int .i64 j, .int .i64 t, .int .i64 h, .int .i64 g, .int .i64 q, .int .i64 s, .int .i64 cp, .slice A n k], .agg #[.int .u32 pa, .int .i64 pm], .slice Az N cz] w fun e w' => e = .returned (.bool true) ∧ Below w.heap.size w w' := by
  have HF := Lib.hid (fun W => few11_any p j t h g q s cp A n k W)
  have HW := Lib.hid (fun W (hW : Below w.heap.size w W) => works11_any W (hw.below hW))
  have HC := Lib.hid (fun W (hW : Below w.heap.size w W) => right8_any p j t h g q s cp A n k B l hn W (hr.below (hW.mono hB)) (by have := hW.size; omega) hnk hk hl)
  have HG := Lib.hid (fun W => refGood_any pa pm W hpa)
  rw [← okOf_one] at HG
  have HL := Lib.hid (fun (nw : Int) (st1 me1 lo1 fa1 : Int) (nx1 : Nat) (du1 : Int) (ch1 : Bool) W (hW : Below w.heap.size w W) (hx1 : nx1 < 4294967296) => lose_any p j t h g q s cp A n k B l hn pa pm st1 me1 lo1 fa1 nx1 du1 ch1 nw W (hr.below (hW.mono hB)) (by have := hW.size; omega) hnk hk hl (hw.below hW) hpa hx1)
  have HX := Lib.hid (fun (nw : Int) (st1 me1 lo1 fa1 : Int) (nx1 : Nat) (du1 : Int) (ch1 : Bool) W (hW : Below w.heap.size w W) (hx1 : nx1 < 4294967296) => expire_any p j t h g q s cp A n k B l hn pa pm st1 me1 lo1 fa1 nx1 du1 ch1 nw W (hr.below (hW.mono hB)) (by have := hW.size; omega) hnk hk hl (hw.below hW) hpa hx1)
  have HH := Lib.hid (fun (hf : Int) (hx : Nat) (hm : Int) (nw : Int) (st1 me1 lo1 fa1 : Int) (nx1 : Nat) (du1 : Int) (ch1 : Bool) W (hW : Below w.heap.size w W) (hx1 : nx1 < 4294967296) (hy : hx < 4294967296) => hearE_any p j t h g q s cp A n k B l hn pa pm st1 me1 lo1 fa1 nx1 du1 ch1 hf hx hm nw W (hr.below (hW.mono hB)) (by have := hW.size; omega) hnk hk hl (hw.below hW) hpa hx1 hy)
  have HR := Lib.hid (fun (st1 me1 lo1 fa1 : Int) (nx1 : Nat) (du1 : Int) (ch1 : Bool) W (hx1 : nx1 < 4294967296) => rright_any pa pm st1 me1 lo1 fa1 nx1 du1 ch1 W hpa hx1)
  have HT := Lib.hid (fun (st1 me1 lo1 fa1 : Int) (nx1 : Nat) (du1 : Int) (ch1 : Bool) W (hx1 : nx1 < 4294967296) => told_any pa pm st1 me1 lo1 fa1 nx1 du1 ch1 3 W hpa hx1)
  have HZ := Lib.hid hz
  have HFT := Lib.hid hfit
  have HN := Lib.hid hN
  have hbd := Lib.hid (fun hok => okC_bounds (p := p) (j := j) (t := t) (h := h) (g := g) (q := q) (s := s) (cp := cp) (l := l) hok)
  have hPF := fun W => ne_pfx11 pa pa pm pm W
  simp only [beq_self_eq_true, Bool.and_self, Bool.not_true] at hPF
  clear hr hl hw hn hz hfit hN hpa hB hnk
  generalize okC p j t h g q s cp l = oc at *
  obtain ⟨op, hop⟩ : ∃ op, op = okOf pa pm 1 := ⟨_, rfl⟩
  rw [← hop] at HG
  have HOP := Lib.hid hop
  clear hop
  have yc := (Blk.new w 24 #[.int .i64 p, .int .i64 j, .int .i64 t, .int .i64 h, .int .i64 g, .int .i64 q, .int .i64 s, .int .i64 cp, .slice A n k]).alloc (.cells #[.int .u32 pa, .int .i64 pm] 28)
  have yp := Blk.new (w.alloc (.cells #[.int .i64 p, .int .i64 j, .int .i64 t, .int .i64 h, .int .i64 g, .int .i64 q, .int .i64 s, .int .i64 cp, .slice A n k] 24)) 28 #[.int .u32 pa, .int .i64 pm]
  simp only [World.size_alloc] at yp
  have BB : Below w.heap.size w ((w.alloc (.cells #[.int .i64 p, .int .i64 j, .int .i64 t, .int .i64 h, .int .i64 g, .int .i64 q, .int .i64 s, .int .i64 cp, .slice A n k] 24)).alloc (.cells #[.int .u32 pa, .int .i64 pm] 28)) := balloc (balloc (Below.refl _ _) _) _
  have Y := Lib.hid (And.intro yc (And.intro yp BB))
  clear yc yp BB
  by_cases h20 : n ≤ 20
  case neg =>
    go_enter Tryd.func7, Tryd.ntmps7
    go_wp2_with fail
    refine (HF.out _).mono ?_
    rintro e w1 ⟨rfl, b1⟩
    rw [decide_eq_false (by omega : ¬ (n : Int) ≤ 20)]
    obtain ⟨yc, yp, BB⟩ := Y.out
    replace yc := yc.below b1 yc.lt
    replace yp := yp.below b1 yp.lt
    replace BB := bnext BB b1
    clear b1
    clear yc yp
    have HWc := HW.out _ BB
    go_wp2_with fail
    refine HWc.mono ?_
    rintro e w9 ⟨rfl, b9⟩
    go_wp2_with fail
    go_ret
    exact ⟨rfl, bnext BB b9⟩
  by_cases h40 : N ≤ 40
  case neg =>
    have d4 : decide ((40 : Int) < N) = true := by simp; omega
    go_enter Tryd.func7, Tryd.ntmps7
    go_wp2_with fail
    refine (HF.out _).mono ?_
    rintro e w1 ⟨rfl, b1⟩
    rw [decide_eq_true (by omega : (n : Int) ≤ 20)]
    obtain ⟨yc, yp, BB⟩ := Y.out
    replace yc := yc.below b1 yc.lt
    replace yp := yp.below b1 yp.lt
    replace BB := bnext BB b1
    clear b1
    clear yc yp
    have HWc := HW.out _ BB
    go_wp2_with fail
    refine HWc.mono ?_
    rintro e w9 ⟨rfl, b9⟩
    go_wp2_with fail
    go_ret
    exact ⟨rfl, bnext BB b9⟩
  have d4 : decide ((40 : Int) < N) = false := by simp; omega
  rcases (show oc = false ∨ oc = true by cases oc <;> simp) with hoc | hoc
  case inl =>
    rw [hoc] at HC
    clear hoc
    go_enter Tryd.func7, Tryd.ntmps7
    go_wp2_with fail
    refine (HF.out _).mono ?_
    rintro e w1 ⟨rfl, b1⟩
    rw [decide_eq_true (by omega : (n : Int) ≤ 20)]
    obtain ⟨yc, yp, BB⟩ := Y.out
    replace yc := yc.below b1 yc.lt
    replace yp := yp.below b1 yp.lt
    replace BB := bnext BB b1
    clear b1
    have HCc := HC.out _ BB
    have k0 := (yc).cell 0
    have k1 := (yc).cell 1
    have k2 := (yc).cell 2
    have k3 := (yc).cell 3
    have k4 := (yc).cell 4
    have k5 := (yc).cell 5
    have k6 := (yc).cell 6
    have k7 := (yc).cell 7
    have k8 := (yc).cell 8
    simp only [List.getElem?_toArray, List.getElem?_cons_zero, List.getElem?_cons_succ] at k0 k1 k2 k3 k4 k5 k6 k7 k8
    have Y1 := Lib.hid (And.intro yc (And.intro yp BB))
    clear yc yp BB
    go_wp2_with fail
    refine HCc.mono ?_
    rintro e w2 ⟨rfl, b2⟩
    obtain ⟨yc, yp, BB⟩ := Y1.out
    clear k0 k1 k2 k3 k4 k5 k6 k7 k8
    replace yc := yc.below b2 yc.lt
    replace yp := yp.below b2 yp.lt
    replace BB := bnext BB b2
    clear b2 HCc Y1
    clear yc yp
    have HWc := HW.out _ BB
    go_wp2_with fail
    refine HWc.mono ?_
    rintro e w9 ⟨rfl, b9⟩
    go_wp2_with fail
    go_ret
    exact ⟨rfl, bnext BB b9⟩
  rw [hoc] at HC
  have HOC := Lib.hid hoc
  clear hoc
  cases op
  case false =>
    go_enter Tryd.func7, Tryd.ntmps7
    go_wp2_with fail
    refine (HF.out _).mono ?_
    rintro e w1 ⟨rfl, b1⟩
    rw [decide_eq_true (by omega : (n : Int) ≤ 20)]
    obtain ⟨yc, yp, BB⟩ := Y.out
    replace yc := yc.below b1 yc.lt
    replace yp := yp.below b1 yp.lt
    replace BB := bnext BB b1
    clear b1
    have HCc := HC.out _ BB
    have k0 := (yc).cell 0
    have k1 := (yc).cell 1
    have k2 := (yc).cell 2
    have k3 := (yc).cell 3
    have k4 := (yc).cell 4
    have k5 := (yc).cell 5
    have k6 := (yc).cell 6
    have k7 := (yc).cell 7
    have k8 := (yc).cell 8
    simp only [List.getElem?_toArray, List.getElem?_cons_zero, List.getElem?_cons_succ] at k0 k1 k2 k3 k4 k5 k6 k7 k8
    have Y1 := Lib.hid (And.intro yc (And.intro yp BB))
    clear yc yp BB
    go_wp2_with fail
    refine HCc.mono ?_
    rintro e w2 ⟨rfl, b2⟩
    obtain ⟨yc, yp, BB⟩ := Y1.out
    clear k0 k1 k2 k3 k4 k5 k6 k7 k8
    replace yc := yc.below b2 yc.lt
    replace yp := yp.below b2 yp.lt
    replace BB := bnext BB b2
    clear b2 HCc Y1
    have k0 := (yp).cell 0
    have k1 := (yp).cell 1
    simp only [List.getElem?_toArray, List.getElem?_cons_zero, List.getElem?_cons_succ] at k0 k1
    have Y1 := Lib.hid (And.intro yc (And.intro yp BB))
    clear yc yp BB
    go_wp2_with fail
    refine (HG.out _).mono ?_
    rintro e w3 ⟨rfl, b3⟩
    obtain ⟨yc, yp, BB⟩ := Y1.out
    clear k0 k1
    replace yc := yc.below b3 yc.lt
    replace yp := yp.below b3 yp.lt
    replace BB := bnext BB b3
    clear b3 Y1
    clear yc yp
    have HWc := HW.out _ BB
    go_wp2_with fail
    refine HWc.mono ?_
    rintro e w9 ⟨rfl, b9⟩
    go_wp2_with fail
    go_ret
    exact ⟨rfl, bnext BB b9⟩
  go_enter Tryd.func7, Tryd.ntmps7
  go_wp2_with fail
  refine (HF.out _).mono ?_
  rintro e w1 ⟨rfl, b1⟩
  rw [decide_eq_true (by omega : (n : Int) ≤ 20)]
  obtain ⟨yc, yp, BB⟩ := Y.out
  replace yc := yc.below b1 yc.lt
  replace yp := yp.below b1 yp.lt
  replace BB := bnext BB b1
  clear b1
  have HCc := HC.out _ BB
  have k0 := (yc).cell 0
  have k1 := (yc).cell 1
  have k2 := (yc).cell 2
  have k3 := (yc).cell 3
  have k4 := (yc).cell 4
  have k5 := (yc).cell 5
  have k6 := (yc).cell 6
  have k7 := (yc).cell 7
  have k8 := (yc).cell 8
  simp only [List.getElem?_toArray, List.getElem?_cons_zero, List.getElem?_cons_succ] at k0 k1 k2 k3 k4 k5 k6 k7 k8
  have Y1 := Lib.hid (And.intro yc (And.intro yp BB))
  clear yc yp BB
  go_wp2_with fail
  refine HCc.mono ?_
  rintro e w2 ⟨rfl, b2⟩
  obtain ⟨yc, yp, BB⟩ := Y1.out
  clear k0 k1 k2 k3 k4 k5 k6 k7 k8
  replace yc := yc.below b2 yc.lt
  replace yp := yp.below b2 yp.lt
  replace BB := bnext BB b2
  clear b2 HCc Y1
  have k0 := (yp).cell 0
  have k1 := (yp).cell 1
  simp only [List.getElem?_toArray, List.getElem?_cons_zero, List.getElem?_cons_succ] at k0 k1
  have Y1 := Lib.hid (And.intro yc (And.intro yp BB))
  clear yc yp BB
  go_wp2_with fail
  refine (HG.out _).mono ?_
  rintro e w3 ⟨rfl, b3⟩
  obtain ⟨yc, yp, BB⟩ := Y1.out
  clear k0 k1
  replace yc := yc.below b3 yc.lt
  replace yp := yp.below b3 yp.lt
  replace BB := bnext BB b3
  clear b3 Y1
  have hsw := yp.lt
  have k0 := (yp).cell 0
  have k1 := (yp).cell 1
  simp only [List.getElem?_toArray, List.getElem?_cons_zero, List.getElem?_cons_succ] at k0 k1
  have yr := Blk.new w3 31 #[.int .u32 pa, .int .i64 pm, .int .i64 0, .int .i64 0, .int .i64 0, .int .i64 0, .int .u32 0, .int .i64 0, .bool false]
  replace yc := yc.alloc (.cells #[.int .u32 pa, .int .i64 pm, .int .i64 0, .int .i64 0, .int .i64 0, .int .i64 0, .int .u32 0, .int .i64 0, .bool false] 31)
  replace yp := yp.alloc (.cells #[.int .u32 pa, .int .i64 pm, .int .i64 0, .int .i64 0, .int .i64 0, .int .i64 0, .int .u32 0, .int .i64 0, .bool false] 31)
  replace BB := balloc BB (.cells #[.int .u32 pa, .int .i64 pm, .int .i64 0, .int .i64 0, .int .i64 0, .int .i64 0, .int .u32 0, .int .i64 0, .bool false] 31)
  have ZZ := Lib.hid (And.intro yr (And.intro yc (And.intro yp BB)))
  clear yr yc yp BB Y
  go_wp2_with fail
  clear k0 k1
  obtain ⟨br, hbr⟩ : ∃ br, br = w3.heap.size := ⟨_, rfl⟩
  generalize w3.alloc (.cells #[.int .u32 pa, .int .i64 pm, .int .i64 0, .int .i64 0, .int .i64 0, .int .i64 0, .int .u32 0, .int .i64 0, .bool false] 31) = W3 at *
  rw [← hbr] at ZZ hsw ⊢
  clear hbr
  go_loopw [8, 9] (fun nv iv wr => ∃ (i : Nat) (nw : Int) (st1 me1 lo1 fa1 : Int) (nx1 : Nat) (du1 : Int) (ch1 : Bool), nv = .int .i64 nw ∧ iv = .int .i64 i ∧ i ≤ N ∧ 0 ≤ nw ∧ nw ≤ 1000 * (i : Int) ∧ Blk wr br 31 #[.int .u32 pa, .int .i64 pm, .int .i64 st1, .int .i64 me1, .int .i64 lo1, .int .i64 fa1, .int .u32 nx1, .int .i64 du1, .bool ch1] ∧ Blk wr w.heap.size 24 #[.int .i64 p, .int .i64 j, .int .i64 t, .int .i64 h, .int .i64 g, .int .i64 q, .int .i64 s, .int .i64 cp, .slice A n k] ∧ Blk wr (w.heap.size + 1) 28 #[.int .u32 pa, .int .i64 pm] ∧ Below w.heap.size w wr ∧ Hid (okRt ⟨pa, pm, st1, me1, lo1, fa1, nx1, du1, ch1⟩ = true ∧ nx1 < 4294967296 ∧ (st1 = 2 → du1 ≤ nw + 1000000))) (fun _ iv _ => N - (intOf iv).toNat)
  case atStart =>
    exact ⟨0, 0, 0, 0, 0, 0, 0, 0, false, rfl, rfl, Nat.zero_le _, Int.le_refl _, by simp, ZZ.out.1, ZZ.out.2.1, ZZ.out.2.2.1, ZZ.out.2.2.2, Lib.hid ⟨ok0 pa pm HOP.out.symm, by decide, fun q => absurd q (by decide)⟩⟩
  case round =>
    obtain ⟨i, nw, st1, me1, lo1, fa1, nx1, du1, ch1, rfl, rfl, hi, hnw0, hnw1, yr, yc, yp, BB, HI⟩ := hrel
    by_cases hlt : i < N
    case pos =>
      obtain ⟨x, hx0⟩ : ∃ x, zs[i]? = some x := ⟨_, List.getElem?_eq_getElem (by rw [HN.out]; exact hlt)⟩
      have hxf := HFT.out x (List.mem_of_getElem? hx0)
      obtain ⟨b, off, hA, hbB, e0, e1, e2, e3, e4⟩ := ac_at (HZ.out.below BB) hx0
      subst hA
      obtain ⟨wh, hf, hx, hm, mo⟩ := x
      simp only at e0 e1 e2 e3 e4 hxf
      have HXF := Lib.hid hxf
      have hi1 : (i : Int) < (N : Int) := by omega
      have hwl : IntKind.i64.wrap ((i : Int) + 1) = (i : Int) + 1 := IntWalk.i64_in _ ⟨by omega, by omega⟩
      obtain ⟨bx, hbx⟩ : ∃ bx, bx = wr.heap.size := ⟨_, rfl⟩
      have hbw : br < bx := by rw [hbx]; exact yr.lt
      have ya := Blk.new wr 64 #[.int .i64 wh, .int .i64 hf, .int .u32 hx, .int .i64 hm, .int .i64 mo]
      replace yr := yr.alloc (.cells #[.int .i64 wh, .int .i64 hf, .int .u32 hx, .int .i64 hm, .int .i64 mo] 64)
      replace yc := yc.alloc (.cells #[.int .i64 wh, .int .i64 hf, .int .u32 hx, .int .i64 hm, .int .i64 mo] 64)
      replace yp := yp.alloc (.cells #[.int .i64 wh, .int .i64 hf, .int .u32 hx, .int .i64 hm, .int .i64 mo] 64)
      replace BB := balloc BB (.cells #[.int .i64 wh, .int .i64 hf, .int .u32 hx, .int .i64 hm, .int .i64 mo] 64)
      rw [← hbx] at ya
      clear hx0 hxf
      have Y1 := Lib.hid (And.intro yr (And.intro yc (And.intro yp (And.intro ya BB))))
      clear yr yc yp ya BB
      have HRH := Lib.hid (fun W => rheard_any hf hx hm W HXF.out)
      go_upto_region 9 with fail
      generalize wr.alloc (.cells #[.int .i64 wh, .int .i64 hf, .int .u32 hx, .int .i64 hm, .int .i64 mo] 64) = x3 at *
      rw [← hbx]
      clear hbx e0 e1 e2 e3 e4
      go_cut [68] from 40 to 241 (fun s0 wx => ∃ (sk : Bool) (W : World), W = wx ∧ s0 = .bool sk ∧ Hid (sk = false → (0 ≤ mo ∧ mo ≤ 1000) ∧ (wh < 5 → okH hf hx hm = true)) ∧ Blk W br 31 #[.int .u32 pa, .int .i64 pm, .int .i64 st1, .int .i64 me1, .int .i64 lo1, .int .i64 fa1, .int .u32 nx1, .int .i64 du1, .bool ch1] ∧ Blk W w.heap.size 24 #[.int .i64 p, .int .i64 j, .int .i64 t, .int .i64 h, .int .i64 g, .int .i64 q, .int .i64 s, .int .i64 cp, .slice A n k] ∧ Blk W (w.heap.size + 1) 28 #[.int .u32 pa, .int .i64 pm] ∧ Blk W bx 64 #[.int .i64 wh, .int .i64 hf, .int .u32 hx, .int .i64 hm, .int .i64 mo] ∧ Below w.heap.size w W)
      case first =>
        as_aux_lemma =>
          obtain ⟨yr, yc, yp, ya, BB⟩ := Y1.out
          have ca0 := (ya).cell 0
          have ca1 := (ya).cell 1
          have ca2 := (ya).cell 2
          have ca3 := (ya).cell 3
          have ca4 := (ya).cell 4
          simp only [List.getElem?_toArray, List.getElem?_cons_zero, List.getElem?_cons_succ] at ca0 ca1 ca2 ca3 ca4
          by_cases s1 : mo < 0
          case pos =>
            have d1 : decide (mo < 0) = true := by simpa using s1
            clear yr yc yp ya BB
            go_wp2_with fail
            go_meet
            case rel => exact ⟨true, _, rfl, rfl, Lib.hid (fun q => by cases q), Y1.out⟩
          have d1 : decide (mo < 0) = false := by simpa using s1
          by_cases s2 : 1000 < mo
          case pos =>
            have d2 : decide (1000 < mo) = true := by simpa using s2
            clear yr yc yp ya BB
            go_wp2_with fail
            go_meet
            case rel => exact ⟨true, _, rfl, rfl, Lib.hid (fun q => by cases q), Y1.out⟩
          have d2 : decide (1000 < mo) = false := by simpa using s2
          by_cases s3 : wh < 5
          case pos =>
            have d3 : decide (wh < 5) = true := by simpa using s3
            obtain ⟨oh, hoh⟩ : ∃ oh, oh = okH hf hx hm := ⟨_, rfl⟩
            rw [← hoh] at HRH
            have HOH := Lib.hid hoh.symm
            clear hoh yr yc yp ya BB
            go_wp2_with fail
            refine (HRH.out _).mono ?_
            rintro e w4 ⟨rfl, b4⟩
            obtain ⟨yr, yc, yp, ya, BB⟩ := Y1.out
            replace yr := yr.below b4 yr.lt
            replace yc := yc.below b4 yc.lt
            replace yp := yp.below b4 yp.lt
            replace ya := ya.below b4 ya.lt
            replace BB := bnext BB b4
            have Y2 := Lib.hid (And.intro yr (And.intro yc (And.intro yp (And.intro ya BB))))
            clear yr yc yp ya BB b4
            clear ca0 ca1 ca2 ca3 ca4
            cases oh
            case false =>
              go_wp2_with fail
              go_meet
              case rel => exact ⟨true, _, rfl, rfl, Lib.hid (fun q => by cases q), Y2.out⟩
            case true =>
              go_wp2_with fail
              go_meet
              case rel => exact ⟨false, _, rfl, rfl, Lib.hid (fun _ => ⟨⟨by omega, by omega⟩, fun _ => HOH.out⟩), Y2.out⟩
          case neg =>
            have d3 : decide (wh < 5) = false := by simpa using s3
            clear yr yc yp ya BB
            go_wp2_with fail
            go_meet
            case rel => exact ⟨false, _, rfl, rfl, Lib.hid (fun _ => ⟨⟨by omega, by omega⟩, fun q => absurd q (by omega)⟩), Y1.out⟩
      case rest =>
        obtain ⟨sk, w4, rfl, rfl, HSK, yr, yc, yp, ya, BB⟩ := hcut
        clear Y1 HRH
        cases sk
        case true =>
          clear HSK
          have Y2 := Lib.hid (And.intro yr (And.intro yc (And.intro yp BB)))
          clear yr yc yp ya BB
          go_wp2_with fail
          go_roundw
          case rel => exact ⟨i + 1, nw, st1, me1, lo1, fa1, nx1, du1, ch1, rfl, by go_num, by omega, hnw0, by omega, Y2.out.1, Y2.out.2.1, Y2.out.2.2.1, Y2.out.2.2.2, HI⟩
          case measure => simp [intOf]; omega
        case false =>
          obtain ⟨hmo, hoh⟩ := HSK.out rfl
          have HOH := Lib.hid hoh
          have hwn : IntKind.i64.wrap (nw + mo) = nw + mo := IntWalk.i64_in _ ⟨by omega, by omega⟩
          clear HSK hoh
          obtain ⟨bw, hbw2⟩ : ∃ bw, bw = w4.heap.size := ⟨_, rfl⟩
          have hbw3 : bx < bw := by rw [hbw2]; exact ya.lt
          have yw := Blk.new w4 31 #[.int .u32 pa, .int .i64 pm, .int .i64 st1, .int .i64 me1, .int .i64 lo1, .int .i64 fa1, .int .u32 nx1, .int .i64 du1, .bool ch1]
          rw [← hbw2] at yw
          have c0 := (yr).cell 0
          have c1 := (yr).cell 1
          have c2 := (yr).cell 2
          have c3 := (yr).cell 3
          have c4 := (yr).cell 4
          have c5 := (yr).cell 5
          have c6 := (yr).cell 6
          have c7 := (yr).cell 7
          have c8 := (yr).cell 8
          simp only [List.getElem?_toArray, List.getElem?_cons_zero, List.getElem?_cons_succ] at c0 c1 c2 c3 c4 c5 c6 c7 c8
          have ca0 := (ya).cell 0
          have ca1 := (ya).cell 1
          have ca2 := (ya).cell 2
          have ca3 := (ya).cell 3
          have ca4 := (ya).cell 4
          simp only [List.getElem?_toArray, List.getElem?_cons_zero, List.getElem?_cons_succ] at ca0 ca1 ca2 ca3 ca4
          replace yr := yr.alloc (.cells #[.int .u32 pa, .int .i64 pm, .int .i64 st1, .int .i64 me1, .int .i64 lo1, .int .i64 fa1, .int .u32 nx1, .int .i64 du1, .bool ch1] 31)
          replace yc := yc.alloc (.cells #[.int .u32 pa, .int .i64 pm, .int .i64 st1, .int .i64 me1, .int .i64 lo1, .int .i64 fa1, .int .u32 nx1, .int .i64 du1, .bool ch1] 31)
          replace yp := yp.alloc (.cells #[.int .u32 pa, .int .i64 pm, .int .i64 st1, .int .i64 me1, .int .i64 lo1, .int .i64 fa1, .int .u32 nx1, .int .i64 du1, .bool ch1] 31)
          replace ya := ya.alloc (.cells #[.int .u32 pa, .int .i64 pm, .int .i64 st1, .int .i64 me1, .int .i64 lo1, .int .i64 fa1, .int .u32 nx1, .int .i64 du1, .bool ch1] 31)
          replace BB := balloc BB (.cells #[.int .u32 pa, .int .i64 pm, .int .i64 st1, .int .i64 me1, .int .i64 lo1, .int .i64 fa1, .int .u32 nx1, .int .i64 du1, .bool ch1] 31)
          obtain ⟨he, hhe⟩ : ∃ he, he = (decide (0 ≤ wh) && decide (wh < 5)) := ⟨_, rfl⟩
          have HHE := Lib.hid hhe
          clear hhe
          have Y3 := Lib.hid (And.intro yr (And.intro yc (And.intro yp (And.intro ya (And.intro yw BB)))))
          obtain ⟨w5, hw5⟩ : ∃ w5, w5 = w4.alloc (.cells #[.int .u32 pa, .int .i64 pm, .int .i64 st1, .int .i64 me1, .int .i64 lo1, .int .i64 fa1, .int .u32 nx1, .int .i64 du1, .bool ch1] 31) := ⟨_, rfl⟩
          rw [← hw5] at Y3
          have Z4 := Lib.hid hw5
          clear yw hw5 yr yc yp ya BB
          go_upto_region 13 with fail
          rw [← Z4.out]
          clear Z4
          rw [← hbw2]
          clear hbw2
          clear c0 c1 c2 c3 c4 c5 c6 c7 c8 ca0 ca1 ca2 ca3 ca4
          have ca0 := Y3.out.2.2.2.1.cell 0
          simp only [List.getElem?_toArray, List.getElem?_cons_zero] at ca0
          go_upto_block 2 with fail
          clear ca0
          go_cut [12] from 40 to 241 (fun s0 wx => ∃ (W : World) (st2 me2 lo2 fa2 : Int) (nx2 : Nat) (du2 : Int) (ch2 : Bool), W = wx ∧ s0 = .int .i64 0 ∧ Blk W br 31 #[.int .u32 pa, .int .i64 pm, .int .i64 st2, .int .i64 me2, .int .i64 lo2, .int .i64 fa2, .int .u32 nx2, .int .i64 du2, .bool ch2] ∧ Blk W w.heap.size 24 #[.int .i64 p, .int .i64 j, .int .i64 t, .int .i64 h, .int .i64 g, .int .i64 q, .int .i64 s, .int .i64 cp, .slice A n k] ∧ Blk W (w.heap.size + 1) 28 #[.int .u32 pa, .int .i64 pm] ∧ Blk W bx 64 #[.int .i64 wh, .int .i64 hf, .int .u32 hx, .int .i64 hm, .int .i64 mo] ∧ Blk W bw 31 #[.int .u32 pa, .int .i64 pm, .int .i64 st1, .int .i64 me1, .int .i64 lo1, .int .i64 fa1, .int .u32 nx1, .int .i64 du1, .bool ch1] ∧ Below w.heap.size w W ∧ Hid (Fine ⟨pa, pm, st1, me1, lo1, fa1, nx1, du1, ch1⟩ ⟨pa, pm, st2, me2, lo2, fa2, nx2, du2, ch2⟩ (nw + mo) ∧ Kept he hf hx hm ⟨pa, pm, st1, me1, lo1, fa1, nx1, du1, ch1⟩ ⟨pa, pm, st2, me2, lo2, fa2, nx2, du2, ch2⟩))
          case first =>
            by_cases s3 : wh < 5
            case pos =>
              by_cases s4 : 0 ≤ wh
              case pos =>
                have hh1 : he = true := by rw [HHE.out]; simp; exact ⟨s4, s3⟩
                subst hh1
                as_aux_lemma =>
                  have d3 : decide (wh < 5) = true := by simpa using s3
                  have d5 : decide (0 ≤ wh) = true := by simpa using s4
                  have d4' : (wh == 5) = false := by simp; omega
                  have hoh := HOH.out s3
                  clear s3 s4
                  obtain ⟨yr, yc, yp, ya, yw, BB⟩ := Y3.out
                  have hbb := hbd.out HOC.out
                  have hstep := hear_step t h ⟨pa, pm, st1, me1, lo1, fa1, nx1, du1, ch1⟩ (nw + mo) hf hx hm HI.out.1 HI.out.2.1 ⟨by omega, by omega⟩ ⟨by omega, by omega⟩ ⟨by omega, by omega⟩ HXF.out hoh
                  have h0 : askR (oc && okR pa pm st1 me1 lo1 fa1 nx1 du1 ch1 && okH hf hx hm) (nw + mo) = 0 := by
                    rw [HOC.out, show okR pa pm st1 me1 lo1 fa1 nx1 du1 ch1 = true from HI.out.1]
                    rw [hoh]
                    show (if inF 0 4611686018426387904 (nw + mo) = true then (0 : Int) else 170) = 0
                    exact if_pos (decide_eq_true ⟨by omega, by omega⟩)
                  obtain ⟨⟨a2, m2, st2, me2, lo2, fa2, nx2, du2, ch2⟩, hr2⟩ : ∃ r2, r2 = hearR t h ⟨pa, pm, st1, me1, lo1, fa1, nx1, du1, ch1⟩ hf hx hm (nw + mo) := ⟨_, rfl⟩
                  rw [← hr2] at hstep
                  have hpa2 : pa = a2 := hstep.1.2.1.symm
                  have hpm2 : pm = m2 := hstep.1.2.2.1.symm
                  subst hpa2 hpm2
                  have HSC : Hid (Calls Tryd.prog 10 #[.agg #[.int .i64 p, .int .i64 j, .int .i64 t, .int .i64 h, .int .i64 g, .int .i64 q, .int .i64 s, .int .i64 cp, .slice A n k], .agg #[.int .u32 pa, .int .i64 pm, .int .i64 st1, .int .i64 me1, .int .i64 lo1, .int .i64 fa1, .int .u32 nx1, .int .i64 du1, .bool ch1], .agg #[.int .i64 hf, .int .u32 hx, .int .i64 hm], .int .i64 (nw + mo)] w5 fun e w' => e = .returned (.tuple #[.agg #[.int .u32 pa, .int .i64 pm, .int .i64 st2, .int .i64 me2, .int .i64 lo2, .int .i64 fa2, .int .u32 nx2, .int .i64 du2, .bool ch2], .int .i64 0]) ∧ Below w5.heap.size w5 w') := Lib.hid (by
                    have q := HH.out hf hx hm (nw + mo) st1 me1 lo1 fa1 nx1 du1 ch1 _ BB HI.out.2.1 HXF.out
                    rw [h0, show outR 0 (hearR t h ⟨pa, pm, st1, me1, lo1, fa1, nx1, du1, ch1⟩ hf hx hm (nw + mo)) = hearR t h ⟨pa, pm, st1, me1, lo1, fa1, nx1, du1, ch1⟩ hf hx hm (nw + mo) from if_pos rfl, ← hr2] at q
                    exact q)
                  have HSTP := Lib.hid hstep
                  clear hstep h0 hr2 hbb
                  clear hoh
                  have c0 := (yr).cell 0
                  have c1 := (yr).cell 1
                  have c2 := (yr).cell 2
                  have c3 := (yr).cell 3
                  have c4 := (yr).cell 4
                  have c5 := (yr).cell 5
                  have c6 := (yr).cell 6
                  have c7 := (yr).cell 7
                  have c8 := (yr).cell 8
                  simp only [List.getElem?_toArray, List.getElem?_cons_zero, List.getElem?_cons_succ] at c0 c1 c2 c3 c4 c5 c6 c7 c8
                  have k0 := (yc).cell 0
                  have k1 := (yc).cell 1
                  have k2 := (yc).cell 2
                  have k3 := (yc).cell 3
                  have k4 := (yc).cell 4
                  have k5 := (yc).cell 5
                  have k6 := (yc).cell 6
                  have k7 := (yc).cell 7
                  have k8 := (yc).cell 8
                  simp only [List.getElem?_toArray, List.getElem?_cons_zero, List.getElem?_cons_succ] at k0 k1 k2 k3 k4 k5 k6 k7 k8
                  have ca0 := (ya).cell 0
                  have ca1 := (ya).cell 1
                  have ca2 := (ya).cell 2
                  have ca3 := (ya).cell 3
                  have ca4 := (ya).cell 4
                  simp only [List.getElem?_toArray, List.getElem?_cons_zero, List.getElem?_cons_succ] at ca0 ca1 ca2 ca3 ca4
                  clear yr yc yp ya yw BB
                  go_wp2_with fail
                  refine HSC.out.mono ?_
                  rintro e w6 ⟨rfl, b6⟩
                  obtain ⟨yr, yc, yp, ya, yw, BB⟩ := Y3.out
                  clear c0 c1 c2 c3 c4 c5 c6 c7 c8 ca0 ca1 ca2 ca3 ca4 k0 k1 k2 k3 k4 k5 k6 k7 k8
                  replace yr := yr.below b6 yr.lt
                  replace yc := yc.below b6 yc.lt
                  replace yp := yp.below b6 yp.lt
                  replace ya := ya.below b6 ya.lt
                  replace yw := yw.below b6 yw.lt
                  replace BB := bnext BB b6
                  clear b6 HSC
                  have HYR : w6.heap[br]? = some (.cells #[.int .u32 pa, .int .i64 pm, .int .i64 st1, .int .i64 me1, .int .i64 lo1, .int .i64 fa1, .int .u32 nx1, .int .i64 du1, .bool ch1] 31 (0, 0)) := yr
                  have Q7 := Lib.hid (And.intro (show Blk (w6.setRow br #[.int .u32 pa, .int .i64 pm, .int .i64 st2, .int .i64 me2, .int .i64 lo2, .int .i64 fa2, .int .u32 nx2, .int .i64 du2, .bool ch2]) br 31 #[.int .u32 pa, .int .i64 pm, .int .i64 st2, .int .i64 me2, .int .i64 lo2, .int .i64 fa2, .int .u32 nx2, .int .i64 du2, .bool ch2] from setRow_heap w6 br _ _ _ _ HYR) (And.intro (show Blk (w6.setRow br #[.int .u32 pa, .int .i64 pm, .int .i64 st2, .int .i64 me2, .int .i64 lo2, .int .i64 fa2, .int .u32 nx2, .int .i64 du2, .bool ch2]) w.heap.size 24 #[.int .i64 p, .int .i64 j, .int .i64 t, .int .i64 h, .int .i64 g, .int .i64 q, .int .i64 s, .int .i64 cp, .slice A n k] from (setRow_other w6 br w.heap.size #[.int .u32 pa, .int .i64 pm, .int .i64 st2, .int .i64 me2, .int .i64 lo2, .int .i64 fa2, .int .u32 nx2, .int .i64 du2, .bool ch2] (by omega)).trans yc) (And.intro (show Blk (w6.setRow br #[.int .u32 pa, .int .i64 pm, .int .i64 st2, .int .i64 me2, .int .i64 lo2, .int .i64 fa2, .int .u32 nx2, .int .i64 du2, .bool ch2]) (w.heap.size + 1) 28 #[.int .u32 pa, .int .i64 pm] from (setRow_other w6 br (w.heap.size + 1) #[.int .u32 pa, .int .i64 pm, .int .i64 st2, .int .i64 me2, .int .i64 lo2, .int .i64 fa2, .int .u32 nx2, .int .i64 du2, .bool ch2] (by omega)).trans yp) (And.intro (show Blk (w6.setRow br #[.int .u32 pa, .int .i64 pm, .int .i64 st2, .int .i64 me2, .int .i64 lo2, .int .i64 fa2, .int .u32 nx2, .int .i64 du2, .bool ch2]) bx 64 #[.int .i64 wh, .int .i64 hf, .int .u32 hx, .int .i64 hm, .int .i64 mo] from (setRow_other w6 br bx #[.int .u32 pa, .int .i64 pm, .int .i64 st2, .int .i64 me2, .int .i64 lo2, .int .i64 fa2, .int .u32 nx2, .int .i64 du2, .bool ch2] (by omega)).trans ya) (And.intro (show Blk (w6.setRow br #[.int .u32 pa, .int .i64 pm, .int .i64 st2, .int .i64 me2, .int .i64 lo2, .int .i64 fa2, .int .u32 nx2, .int .i64 du2, .bool ch2]) bw 31 #[.int .u32 pa, .int .i64 pm, .int .i64 st1, .int .i64 me1, .int .i64 lo1, .int .i64 fa1, .int .u32 nx1, .int .i64 du1, .bool ch1] from (setRow_other w6 br bw #[.int .u32 pa, .int .i64 pm, .int .i64 st2, .int .i64 me2, .int .i64 lo2, .int .i64 fa2, .int .u32 nx2, .int .i64 du2, .bool ch2] (by omega)).trans yw) (below_setRow (B := w.heap.size) (g := br) BB (by omega) #[.int .u32 pa, .int .i64 pm, .int .i64 st2, .int .i64 me2, .int .i64 lo2, .int .i64 fa2, .int .u32 nx2, .int .i64 du2, .bool ch2]))))))
                  have HYR2 := Lib.hid HYR
                  clear yr yc yp ya yw BB HYR
                  go_wp2_with (refine wpList_store_rowTo rfl 31 (.tmp 7) (.tmp 91) rfl rfl br #[.int .u32 pa, .int .i64 pm, .int .i64 st2, .int .i64 me2, .int .i64 lo2, .int .i64 fa2, .int .u32 nx2, .int .i64 du2, .bool ch2] ?hKH1 ?hKH2 31 #[.int .u32 pa, .int .i64 pm, .int .i64 st1, .int .i64 me1, .int .i64 lo1, .int .i64 fa1, .int .u32 nx1, .int .i64 du1, .bool ch1] HYR2.out ?hKH3 ?hKH4 ?hKH5 ?hKH6; go_must (case hKH1 => rfl); go_must (case hKH2 => rfl); go_must (case hKH3 => kernel_rfl); go_must (case hKH4 => rfl); go_must (case hKH5 => first | kernel_rfl | simp [Value.oneCell']))
                  go_meet
                  case rel => exact ⟨_, st2, me2, lo2, fa2, nx2, du2, ch2, rfl, rfl, Q7.out.1, Q7.out.2.1, Q7.out.2.2.1, Q7.out.2.2.2.1, Q7.out.2.2.2.2.1, Q7.out.2.2.2.2.2, HSTP⟩
              case neg =>
                have hh1 : he = false := by rw [HHE.out]; simp; omega
                subst hh1
                as_aux_lemma =>
                  have d5 : decide (0 ≤ wh) = false := by simpa using s4
                  have d4' : (wh == 5) = false := by simp; omega
                  clear s3 s4
                  obtain ⟨yr, yc, yp, ya, yw, BB⟩ := Y3.out
                  have hbb := hbd.out HOC.out
                  have hstep := exp_step h g ⟨pa, pm, st1, me1, lo1, fa1, nx1, du1, ch1⟩ (nw + mo) HI.out.1 HI.out.2.1 ⟨by omega, by omega⟩ ⟨by omega, by omega⟩ ⟨by omega, by omega⟩ hf hx hm
                  have h0 : askR (oc && okR pa pm st1 me1 lo1 fa1 nx1 du1 ch1) (nw + mo) = 0 := by
                    rw [HOC.out, show okR pa pm st1 me1 lo1 fa1 nx1 du1 ch1 = true from HI.out.1]
                    show (if inF 0 4611686018426387904 (nw + mo) = true then (0 : Int) else 170) = 0
                    exact if_pos (decide_eq_true ⟨by omega, by omega⟩)
                  obtain ⟨⟨a2, m2, st2, me2, lo2, fa2, nx2, du2, ch2⟩, hr2⟩ : ∃ r2, r2 = expR h g ⟨pa, pm, st1, me1, lo1, fa1, nx1, du1, ch1⟩ (nw + mo) := ⟨_, rfl⟩
                  rw [← hr2] at hstep
                  have hpa2 : pa = a2 := hstep.1.2.1.symm
                  have hpm2 : pm = m2 := hstep.1.2.2.1.symm
                  subst hpa2 hpm2
                  have HSC : Hid (Calls Tryd.prog 24 #[.agg #[.int .i64 p, .int .i64 j, .int .i64 t, .int .i64 h, .int .i64 g, .int .i64 q, .int .i64 s, .int .i64 cp, .slice A n k], .agg #[.int .u32 pa, .int .i64 pm, .int .i64 st1, .int .i64 me1, .int .i64 lo1, .int .i64 fa1, .int .u32 nx1, .int .i64 du1, .bool ch1], .int .i64 (nw + mo)] w5 fun e w' => e = .returned (.tuple #[.agg #[.int .u32 pa, .int .i64 pm, .int .i64 st2, .int .i64 me2, .int .i64 lo2, .int .i64 fa2, .int .u32 nx2, .int .i64 du2, .bool ch2], .int .i64 0]) ∧ Below w5.heap.size w5 w') := Lib.hid (by
                    have q := HX.out (nw + mo) st1 me1 lo1 fa1 nx1 du1 ch1 _ BB HI.out.2.1
                    rw [h0, show outR 0 (expR h g ⟨pa, pm, st1, me1, lo1, fa1, nx1, du1, ch1⟩ (nw + mo)) = expR h g ⟨pa, pm, st1, me1, lo1, fa1, nx1, du1, ch1⟩ (nw + mo) from if_pos rfl, ← hr2] at q
                    exact q)
                  have HSTP := Lib.hid hstep
                  clear hstep h0 hr2 hbb
                  have c0 := (yr).cell 0
                  have c1 := (yr).cell 1
                  have c2 := (yr).cell 2
                  have c3 := (yr).cell 3
                  have c4 := (yr).cell 4
                  have c5 := (yr).cell 5
                  have c6 := (yr).cell 6
                  have c7 := (yr).cell 7
                  have c8 := (yr).cell 8
                  simp only [List.getElem?_toArray, List.getElem?_cons_zero, List.getElem?_cons_succ] at c0 c1 c2 c3 c4 c5 c6 c7 c8
                  have k0 := (yc).cell 0
                  have k1 := (yc).cell 1
                  have k2 := (yc).cell 2
                  have k3 := (yc).cell 3
                  have k4 := (yc).cell 4
                  have k5 := (yc).cell 5
                  have k6 := (yc).cell 6
                  have k7 := (yc).cell 7
                  have k8 := (yc).cell 8
                  simp only [List.getElem?_toArray, List.getElem?_cons_zero, List.getElem?_cons_succ] at k0 k1 k2 k3 k4 k5 k6 k7 k8
                  have ca0 := (ya).cell 0
                  have ca1 := (ya).cell 1
                  have ca2 := (ya).cell 2
                  have ca3 := (ya).cell 3
                  have ca4 := (ya).cell 4
                  simp only [List.getElem?_toArray, List.getElem?_cons_zero, List.getElem?_cons_succ] at ca0 ca1 ca2 ca3 ca4
                  clear yr yc yp ya yw BB
                  go_wp2_with fail
                  refine HSC.out.mono ?_
                  rintro e w6 ⟨rfl, b6⟩
                  obtain ⟨yr, yc, yp, ya, yw, BB⟩ := Y3.out
                  clear c0 c1 c2 c3 c4 c5 c6 c7 c8 ca0 ca1 ca2 ca3 ca4 k0 k1 k2 k3 k4 k5 k6 k7 k8
                  replace yr := yr.below b6 yr.lt
                  replace yc := yc.below b6 yc.lt
                  replace yp := yp.below b6 yp.lt
                  replace ya := ya.below b6 ya.lt
                  replace yw := yw.below b6 yw.lt
                  replace BB := bnext BB b6
                  clear b6 HSC
                  have HYR : w6.heap[br]? = some (.cells #[.int .u32 pa, .int .i64 pm, .int .i64 st1, .int .i64 me1, .int .i64 lo1, .int .i64 fa1, .int .u32 nx1, .int .i64 du1, .bool ch1] 31 (0, 0)) := yr
                  have Q7 := Lib.hid (And.intro (show Blk (w6.setRow br #[.int .u32 pa, .int .i64 pm, .int .i64 st2, .int .i64 me2, .int .i64 lo2, .int .i64 fa2, .int .u32 nx2, .int .i64 du2, .bool ch2]) br 31 #[.int .u32 pa, .int .i64 pm, .int .i64 st2, .int .i64 me2, .int .i64 lo2, .int .i64 fa2, .int .u32 nx2, .int .i64 du2, .bool ch2] from setRow_heap w6 br _ _ _ _ HYR) (And.intro (show Blk (w6.setRow br #[.int .u32 pa, .int .i64 pm, .int .i64 st2, .int .i64 me2, .int .i64 lo2, .int .i64 fa2, .int .u32 nx2, .int .i64 du2, .bool ch2]) w.heap.size 24 #[.int .i64 p, .int .i64 j, .int .i64 t, .int .i64 h, .int .i64 g, .int .i64 q, .int .i64 s, .int .i64 cp, .slice A n k] from (setRow_other w6 br w.heap.size #[.int .u32 pa, .int .i64 pm, .int .i64 st2, .int .i64 me2, .int .i64 lo2, .int .i64 fa2, .int .u32 nx2, .int .i64 du2, .bool ch2] (by omega)).trans yc) (And.intro (show Blk (w6.setRow br #[.int .u32 pa, .int .i64 pm, .int .i64 st2, .int .i64 me2, .int .i64 lo2, .int .i64 fa2, .int .u32 nx2, .int .i64 du2, .bool ch2]) (w.heap.size + 1) 28 #[.int .u32 pa, .int .i64 pm] from (setRow_other w6 br (w.heap.size + 1) #[.int .u32 pa, .int .i64 pm, .int .i64 st2, .int .i64 me2, .int .i64 lo2, .int .i64 fa2, .int .u32 nx2, .int .i64 du2, .bool ch2] (by omega)).trans yp) (And.intro (show Blk (w6.setRow br #[.int .u32 pa, .int .i64 pm, .int .i64 st2, .int .i64 me2, .int .i64 lo2, .int .i64 fa2, .int .u32 nx2, .int .i64 du2, .bool ch2]) bx 64 #[.int .i64 wh, .int .i64 hf, .int .u32 hx, .int .i64 hm, .int .i64 mo] from (setRow_other w6 br bx #[.int .u32 pa, .int .i64 pm, .int .i64 st2, .int .i64 me2, .int .i64 lo2, .int .i64 fa2, .int .u32 nx2, .int .i64 du2, .bool ch2] (by omega)).trans ya) (And.intro (show Blk (w6.setRow br #[.int .u32 pa, .int .i64 pm, .int .i64 st2, .int .i64 me2, .int .i64 lo2, .int .i64 fa2, .int .u32 nx2, .int .i64 du2, .bool ch2]) bw 31 #[.int .u32 pa, .int .i64 pm, .int .i64 st1, .int .i64 me1, .int .i64 lo1, .int .i64 fa1, .int .u32 nx1, .int .i64 du1, .bool ch1] from (setRow_other w6 br bw #[.int .u32 pa, .int .i64 pm, .int .i64 st2, .int .i64 me2, .int .i64 lo2, .int .i64 fa2, .int .u32 nx2, .int .i64 du2, .bool ch2] (by omega)).trans yw) (below_setRow (B := w.heap.size) (g := br) BB (by omega) #[.int .u32 pa, .int .i64 pm, .int .i64 st2, .int .i64 me2, .int .i64 lo2, .int .i64 fa2, .int .u32 nx2, .int .i64 du2, .bool ch2]))))))
                  have HYR2 := Lib.hid HYR
                  clear yr yc yp ya yw BB HYR
                  go_wp2_with (refine wpList_store_rowTo rfl 31 (.tmp 7) (.tmp 98) rfl rfl br #[.int .u32 pa, .int .i64 pm, .int .i64 st2, .int .i64 me2, .int .i64 lo2, .int .i64 fa2, .int .u32 nx2, .int .i64 du2, .bool ch2] ?hKN1 ?hKN2 31 #[.int .u32 pa, .int .i64 pm, .int .i64 st1, .int .i64 me1, .int .i64 lo1, .int .i64 fa1, .int .u32 nx1, .int .i64 du1, .bool ch1] HYR2.out ?hKN3 ?hKN4 ?hKN5 ?hKN6; go_must (case hKN1 => rfl); go_must (case hKN2 => rfl); go_must (case hKN3 => kernel_rfl); go_must (case hKN4 => rfl); go_must (case hKN5 => first | kernel_rfl | simp [Value.oneCell']))
                  go_meet
                  case rel => exact ⟨_, st2, me2, lo2, fa2, nx2, du2, ch2, rfl, rfl, Q7.out.1, Q7.out.2.1, Q7.out.2.2.1, Q7.out.2.2.2.1, Q7.out.2.2.2.2.1, Q7.out.2.2.2.2.2, HSTP⟩
            case neg =>
              have hh1 : he = false := by rw [HHE.out]; simp; omega
              subst hh1
              by_cases s5 : wh = 5
              case pos =>
                subst s5
                as_aux_lemma =>
                  obtain ⟨yr, yc, yp, ya, yw, BB⟩ := Y3.out
                  have hbb := hbd.out HOC.out
                  have hstep := lose_step h ⟨pa, pm, st1, me1, lo1, fa1, nx1, du1, ch1⟩ (nw + mo) HI.out.1 HI.out.2.1 ⟨by omega, by omega⟩ ⟨by omega, by omega⟩ hf hx hm
                  have h0 : askR (oc && okR pa pm st1 me1 lo1 fa1 nx1 du1 ch1) (nw + mo) = 0 := by
                    rw [HOC.out, show okR pa pm st1 me1 lo1 fa1 nx1 du1 ch1 = true from HI.out.1]
                    show (if inF 0 4611686018426387904 (nw + mo) = true then (0 : Int) else 170) = 0
                    exact if_pos (decide_eq_true ⟨by omega, by omega⟩)
                  obtain ⟨⟨a2, m2, st2, me2, lo2, fa2, nx2, du2, ch2⟩, hr2⟩ : ∃ r2, r2 = loseR h ⟨pa, pm, st1, me1, lo1, fa1, nx1, du1, ch1⟩ (nw + mo) := ⟨_, rfl⟩
                  rw [← hr2] at hstep
                  have hpa2 : pa = a2 := hstep.1.2.1.symm
                  have hpm2 : pm = m2 := hstep.1.2.2.1.symm
                  subst hpa2 hpm2
                  have HSC : Hid (Calls Tryd.prog 23 #[.agg #[.int .i64 p, .int .i64 j, .int .i64 t, .int .i64 h, .int .i64 g, .int .i64 q, .int .i64 s, .int .i64 cp, .slice A n k], .agg #[.int .u32 pa, .int .i64 pm, .int .i64 st1, .int .i64 me1, .int .i64 lo1, .int .i64 fa1, .int .u32 nx1, .int .i64 du1, .bool ch1], .int .i64 (nw + mo)] w5 fun e w' => e = .returned (.tuple #[.agg #[.int .u32 pa, .int .i64 pm, .int .i64 st2, .int .i64 me2, .int .i64 lo2, .int .i64 fa2, .int .u32 nx2, .int .i64 du2, .bool ch2], .int .i64 0]) ∧ Below w5.heap.size w5 w') := Lib.hid (by
                    have q := HL.out (nw + mo) st1 me1 lo1 fa1 nx1 du1 ch1 _ BB HI.out.2.1
                    rw [h0, show outR 0 (loseR h ⟨pa, pm, st1, me1, lo1, fa1, nx1, du1, ch1⟩ (nw + mo)) = loseR h ⟨pa, pm, st1, me1, lo1, fa1, nx1, du1, ch1⟩ (nw + mo) from if_pos rfl, ← hr2] at q
                    exact q)
                  have HSTP := Lib.hid hstep
                  clear hstep h0 hr2 hbb
                  have c0 := (yr).cell 0
                  have c1 := (yr).cell 1
                  have c2 := (yr).cell 2
                  have c3 := (yr).cell 3
                  have c4 := (yr).cell 4
                  have c5 := (yr).cell 5
                  have c6 := (yr).cell 6
                  have c7 := (yr).cell 7
                  have c8 := (yr).cell 8
                  simp only [List.getElem?_toArray, List.getElem?_cons_zero, List.getElem?_cons_succ] at c0 c1 c2 c3 c4 c5 c6 c7 c8
                  have k0 := (yc).cell 0
                  have k1 := (yc).cell 1
                  have k2 := (yc).cell 2
                  have k3 := (yc).cell 3
                  have k4 := (yc).cell 4
                  have k5 := (yc).cell 5
                  have k6 := (yc).cell 6
                  have k7 := (yc).cell 7
                  have k8 := (yc).cell 8
                  simp only [List.getElem?_toArray, List.getElem?_cons_zero, List.getElem?_cons_succ] at k0 k1 k2 k3 k4 k5 k6 k7 k8
                  have ca0 := (ya).cell 0
                  have ca1 := (ya).cell 1
                  have ca2 := (ya).cell 2
                  have ca3 := (ya).cell 3
                  have ca4 := (ya).cell 4
                  simp only [List.getElem?_toArray, List.getElem?_cons_zero, List.getElem?_cons_succ] at ca0 ca1 ca2 ca3 ca4
                  clear yr yc yp ya yw BB
                  go_wp2_with fail
                  refine HSC.out.mono ?_
                  rintro e w6 ⟨rfl, b6⟩
                  obtain ⟨yr, yc, yp, ya, yw, BB⟩ := Y3.out
                  clear c0 c1 c2 c3 c4 c5 c6 c7 c8 ca0 ca1 ca2 ca3 ca4 k0 k1 k2 k3 k4 k5 k6 k7 k8
                  replace yr := yr.below b6 yr.lt
                  replace yc := yc.below b6 yc.lt
                  replace yp := yp.below b6 yp.lt
                  replace ya := ya.below b6 ya.lt
                  replace yw := yw.below b6 yw.lt
                  replace BB := bnext BB b6
                  clear b6 HSC
                  have HYR : w6.heap[br]? = some (.cells #[.int .u32 pa, .int .i64 pm, .int .i64 st1, .int .i64 me1, .int .i64 lo1, .int .i64 fa1, .int .u32 nx1, .int .i64 du1, .bool ch1] 31 (0, 0)) := yr
                  have Q7 := Lib.hid (And.intro (show Blk (w6.setRow br #[.int .u32 pa, .int .i64 pm, .int .i64 st2, .int .i64 me2, .int .i64 lo2, .int .i64 fa2, .int .u32 nx2, .int .i64 du2, .bool ch2]) br 31 #[.int .u32 pa, .int .i64 pm, .int .i64 st2, .int .i64 me2, .int .i64 lo2, .int .i64 fa2, .int .u32 nx2, .int .i64 du2, .bool ch2] from setRow_heap w6 br _ _ _ _ HYR) (And.intro (show Blk (w6.setRow br #[.int .u32 pa, .int .i64 pm, .int .i64 st2, .int .i64 me2, .int .i64 lo2, .int .i64 fa2, .int .u32 nx2, .int .i64 du2, .bool ch2]) w.heap.size 24 #[.int .i64 p, .int .i64 j, .int .i64 t, .int .i64 h, .int .i64 g, .int .i64 q, .int .i64 s, .int .i64 cp, .slice A n k] from (setRow_other w6 br w.heap.size #[.int .u32 pa, .int .i64 pm, .int .i64 st2, .int .i64 me2, .int .i64 lo2, .int .i64 fa2, .int .u32 nx2, .int .i64 du2, .bool ch2] (by omega)).trans yc) (And.intro (show Blk (w6.setRow br #[.int .u32 pa, .int .i64 pm, .int .i64 st2, .int .i64 me2, .int .i64 lo2, .int .i64 fa2, .int .u32 nx2, .int .i64 du2, .bool ch2]) (w.heap.size + 1) 28 #[.int .u32 pa, .int .i64 pm] from (setRow_other w6 br (w.heap.size + 1) #[.int .u32 pa, .int .i64 pm, .int .i64 st2, .int .i64 me2, .int .i64 lo2, .int .i64 fa2, .int .u32 nx2, .int .i64 du2, .bool ch2] (by omega)).trans yp) (And.intro (show Blk (w6.setRow br #[.int .u32 pa, .int .i64 pm, .int .i64 st2, .int .i64 me2, .int .i64 lo2, .int .i64 fa2, .int .u32 nx2, .int .i64 du2, .bool ch2]) bx 64 #[.int .i64 5, .int .i64 hf, .int .u32 hx, .int .i64 hm, .int .i64 mo] from (setRow_other w6 br bx #[.int .u32 pa, .int .i64 pm, .int .i64 st2, .int .i64 me2, .int .i64 lo2, .int .i64 fa2, .int .u32 nx2, .int .i64 du2, .bool ch2] (by omega)).trans ya) (And.intro (show Blk (w6.setRow br #[.int .u32 pa, .int .i64 pm, .int .i64 st2, .int .i64 me2, .int .i64 lo2, .int .i64 fa2, .int .u32 nx2, .int .i64 du2, .bool ch2]) bw 31 #[.int .u32 pa, .int .i64 pm, .int .i64 st1, .int .i64 me1, .int .i64 lo1, .int .i64 fa1, .int .u32 nx1, .int .i64 du1, .bool ch1] from (setRow_other w6 br bw #[.int .u32 pa, .int .i64 pm, .int .i64 st2, .int .i64 me2, .int .i64 lo2, .int .i64 fa2, .int .u32 nx2, .int .i64 du2, .bool ch2] (by omega)).trans yw) (below_setRow (B := w.heap.size) (g := br) BB (by omega) #[.int .u32 pa, .int .i64 pm, .int .i64 st2, .int .i64 me2, .int .i64 lo2, .int .i64 fa2, .int .u32 nx2, .int .i64 du2, .bool ch2]))))))
                  have HYR2 := Lib.hid HYR
                  clear yr yc yp ya yw BB HYR
                  go_wp2_with (refine wpList_store_rowTo rfl 31 (.tmp 7) (.tmp 107) rfl rfl br #[.int .u32 pa, .int .i64 pm, .int .i64 st2, .int .i64 me2, .int .i64 lo2, .int .i64 fa2, .int .u32 nx2, .int .i64 du2, .bool ch2] ?hK51 ?hK52 31 #[.int .u32 pa, .int .i64 pm, .int .i64 st1, .int .i64 me1, .int .i64 lo1, .int .i64 fa1, .int .u32 nx1, .int .i64 du1, .bool ch1] HYR2.out ?hK53 ?hK54 ?hK55 ?hK56; go_must (case hK51 => rfl); go_must (case hK52 => rfl); go_must (case hK53 => kernel_rfl); go_must (case hK54 => rfl); go_must (case hK55 => first | kernel_rfl | simp [Value.oneCell']))
                  go_meet
                  case rel => exact ⟨_, st2, me2, lo2, fa2, nx2, du2, ch2, rfl, rfl, Q7.out.1, Q7.out.2.1, Q7.out.2.2.1, Q7.out.2.2.2.1, Q7.out.2.2.2.2.1, Q7.out.2.2.2.2.2, HSTP⟩
              case neg =>
                as_aux_lemma =>
                  have d3 : decide (wh < 5) = false := by simpa using s3
                  have d5 : decide (0 ≤ wh) = true := by simp; omega
                  have d4' : (wh == 5) = false := by simpa using s5
                  clear s3 s5
                  obtain ⟨yr, yc, yp, ya, yw, BB⟩ := Y3.out
                  have hbb := hbd.out HOC.out
                  have hstep := exp_step h g ⟨pa, pm, st1, me1, lo1, fa1, nx1, du1, ch1⟩ (nw + mo) HI.out.1 HI.out.2.1 ⟨by omega, by omega⟩ ⟨by omega, by omega⟩ ⟨by omega, by omega⟩ hf hx hm
                  have h0 : askR (oc && okR pa pm st1 me1 lo1 fa1 nx1 du1 ch1) (nw + mo) = 0 := by
                    rw [HOC.out, show okR pa pm st1 me1 lo1 fa1 nx1 du1 ch1 = true from HI.out.1]
                    show (if inF 0 4611686018426387904 (nw + mo) = true then (0 : Int) else 170) = 0
                    exact if_pos (decide_eq_true ⟨by omega, by omega⟩)
                  obtain ⟨⟨a2, m2, st2, me2, lo2, fa2, nx2, du2, ch2⟩, hr2⟩ : ∃ r2, r2 = expR h g ⟨pa, pm, st1, me1, lo1, fa1, nx1, du1, ch1⟩ (nw + mo) := ⟨_, rfl⟩
                  rw [← hr2] at hstep
                  have hpa2 : pa = a2 := hstep.1.2.1.symm
                  have hpm2 : pm = m2 := hstep.1.2.2.1.symm
                  subst hpa2 hpm2
                  have HSC : Hid (Calls Tryd.prog 24 #[.agg #[.int .i64 p, .int .i64 j, .int .i64 t, .int .i64 h, .int .i64 g, .int .i64 q, .int .i64 s, .int .i64 cp, .slice A n k], .agg #[.int .u32 pa, .int .i64 pm, .int .i64 st1, .int .i64 me1, .int .i64 lo1, .int .i64 fa1, .int .u32 nx1, .int .i64 du1, .bool ch1], .int .i64 (nw + mo)] w5 fun e w' => e = .returned (.tuple #[.agg #[.int .u32 pa, .int .i64 pm, .int .i64 st2, .int .i64 me2, .int .i64 lo2, .int .i64 fa2, .int .u32 nx2, .int .i64 du2, .bool ch2], .int .i64 0]) ∧ Below w5.heap.size w5 w') := Lib.hid (by
                    have q := HX.out (nw + mo) st1 me1 lo1 fa1 nx1 du1 ch1 _ BB HI.out.2.1
                    rw [h0, show outR 0 (expR h g ⟨pa, pm, st1, me1, lo1, fa1, nx1, du1, ch1⟩ (nw + mo)) = expR h g ⟨pa, pm, st1, me1, lo1, fa1, nx1, du1, ch1⟩ (nw + mo) from if_pos rfl, ← hr2] at q
                    exact q)
                  have HSTP := Lib.hid hstep
                  clear hstep h0 hr2 hbb
                  have c0 := (yr).cell 0
                  have c1 := (yr).cell 1
                  have c2 := (yr).cell 2
                  have c3 := (yr).cell 3
                  have c4 := (yr).cell 4
                  have c5 := (yr).cell 5
                  have c6 := (yr).cell 6
                  have c7 := (yr).cell 7
                  have c8 := (yr).cell 8
                  simp only [List.getElem?_toArray, List.getElem?_cons_zero, List.getElem?_cons_succ] at c0 c1 c2 c3 c4 c5 c6 c7 c8
                  have k0 := (yc).cell 0
                  have k1 := (yc).cell 1
                  have k2 := (yc).cell 2
                  have k3 := (yc).cell 3
                  have k4 := (yc).cell 4
                  have k5 := (yc).cell 5
                  have k6 := (yc).cell 6
                  have k7 := (yc).cell 7
                  have k8 := (yc).cell 8
                  simp only [List.getElem?_toArray, List.getElem?_cons_zero, List.getElem?_cons_succ] at k0 k1 k2 k3 k4 k5 k6 k7 k8
                  have ca0 := (ya).cell 0
                  have ca1 := (ya).cell 1
                  have ca2 := (ya).cell 2
                  have ca3 := (ya).cell 3
                  have ca4 := (ya).cell 4
                  simp only [List.getElem?_toArray, List.getElem?_cons_zero, List.getElem?_cons_succ] at ca0 ca1 ca2 ca3 ca4
                  clear yr yc yp ya yw BB
                  go_wp2_with fail
                  refine HSC.out.mono ?_
                  rintro e w6 ⟨rfl, b6⟩
                  obtain ⟨yr, yc, yp, ya, yw, BB⟩ := Y3.out
                  clear c0 c1 c2 c3 c4 c5 c6 c7 c8 ca0 ca1 ca2 ca3 ca4 k0 k1 k2 k3 k4 k5 k6 k7 k8
                  replace yr := yr.below b6 yr.lt
                  replace yc := yc.below b6 yc.lt
                  replace yp := yp.below b6 yp.lt
                  replace ya := ya.below b6 ya.lt
                  replace yw := yw.below b6 yw.lt
                  replace BB := bnext BB b6
                  clear b6 HSC
                  have HYR : w6.heap[br]? = some (.cells #[.int .u32 pa, .int .i64 pm, .int .i64 st1, .int .i64 me1, .int .i64 lo1, .int .i64 fa1, .int .u32 nx1, .int .i64 du1, .bool ch1] 31 (0, 0)) := yr
                  have Q7 := Lib.hid (And.intro (show Blk (w6.setRow br #[.int .u32 pa, .int .i64 pm, .int .i64 st2, .int .i64 me2, .int .i64 lo2, .int .i64 fa2, .int .u32 nx2, .int .i64 du2, .bool ch2]) br 31 #[.int .u32 pa, .int .i64 pm, .int .i64 st2, .int .i64 me2, .int .i64 lo2, .int .i64 fa2, .int .u32 nx2, .int .i64 du2, .bool ch2] from setRow_heap w6 br _ _ _ _ HYR) (And.intro (show Blk (w6.setRow br #[.int .u32 pa, .int .i64 pm, .int .i64 st2, .int .i64 me2, .int .i64 lo2, .int .i64 fa2, .int .u32 nx2, .int .i64 du2, .bool ch2]) w.heap.size 24 #[.int .i64 p, .int .i64 j, .int .i64 t, .int .i64 h, .int .i64 g, .int .i64 q, .int .i64 s, .int .i64 cp, .slice A n k] from (setRow_other w6 br w.heap.size #[.int .u32 pa, .int .i64 pm, .int .i64 st2, .int .i64 me2, .int .i64 lo2, .int .i64 fa2, .int .u32 nx2, .int .i64 du2, .bool ch2] (by omega)).trans yc) (And.intro (show Blk (w6.setRow br #[.int .u32 pa, .int .i64 pm, .int .i64 st2, .int .i64 me2, .int .i64 lo2, .int .i64 fa2, .int .u32 nx2, .int .i64 du2, .bool ch2]) (w.heap.size + 1) 28 #[.int .u32 pa, .int .i64 pm] from (setRow_other w6 br (w.heap.size + 1) #[.int .u32 pa, .int .i64 pm, .int .i64 st2, .int .i64 me2, .int .i64 lo2, .int .i64 fa2, .int .u32 nx2, .int .i64 du2, .bool ch2] (by omega)).trans yp) (And.intro (show Blk (w6.setRow br #[.int .u32 pa, .int .i64 pm, .int .i64 st2, .int .i64 me2, .int .i64 lo2, .int .i64 fa2, .int .u32 nx2, .int .i64 du2, .bool ch2]) bx 64 #[.int .i64 wh, .int .i64 hf, .int .u32 hx, .int .i64 hm, .int .i64 mo] from (setRow_other w6 br bx #[.int .u32 pa, .int .i64 pm, .int .i64 st2, .int .i64 me2, .int .i64 lo2, .int .i64 fa2, .int .u32 nx2, .int .i64 du2, .bool ch2] (by omega)).trans ya) (And.intro (show Blk (w6.setRow br #[.int .u32 pa, .int .i64 pm, .int .i64 st2, .int .i64 me2, .int .i64 lo2, .int .i64 fa2, .int .u32 nx2, .int .i64 du2, .bool ch2]) bw 31 #[.int .u32 pa, .int .i64 pm, .int .i64 st1, .int .i64 me1, .int .i64 lo1, .int .i64 fa1, .int .u32 nx1, .int .i64 du1, .bool ch1] from (setRow_other w6 br bw #[.int .u32 pa, .int .i64 pm, .int .i64 st2, .int .i64 me2, .int .i64 lo2, .int .i64 fa2, .int .u32 nx2, .int .i64 du2, .bool ch2] (by omega)).trans yw) (below_setRow (B := w.heap.size) (g := br) BB (by omega) #[.int .u32 pa, .int .i64 pm, .int .i64 st2, .int .i64 me2, .int .i64 lo2, .int .i64 fa2, .int .u32 nx2, .int .i64 du2, .bool ch2]))))))
                  have HYR2 := Lib.hid HYR
                  clear yr yc yp ya yw BB HYR
                  go_wp2_with (refine wpList_store_rowTo rfl 31 (.tmp 7) (.tmp 98) rfl rfl br #[.int .u32 pa, .int .i64 pm, .int .i64 st2, .int .i64 me2, .int .i64 lo2, .int .i64 fa2, .int .u32 nx2, .int .i64 du2, .bool ch2] ?hKP1 ?hKP2 31 #[.int .u32 pa, .int .i64 pm, .int .i64 st1, .int .i64 me1, .int .i64 lo1, .int .i64 fa1, .int .u32 nx1, .int .i64 du1, .bool ch1] HYR2.out ?hKP3 ?hKP4 ?hKP5 ?hKP6; go_must (case hKP1 => rfl); go_must (case hKP2 => rfl); go_must (case hKP3 => kernel_rfl); go_must (case hKP4 => rfl); go_must (case hKP5 => first | kernel_rfl | simp [Value.oneCell']))
                  go_meet
                  case rel => exact ⟨_, st2, me2, lo2, fa2, nx2, du2, ch2, rfl, rfl, Q7.out.1, Q7.out.2.1, Q7.out.2.2.1, Q7.out.2.2.2.1, Q7.out.2.2.2.2.1, Q7.out.2.2.2.2.2, HSTP⟩
          case rest =>
            obtain ⟨w6, st2, me2, lo2, fa2, nx2, du2, ch2, rfl, rfl, yr, yc, yp, ya, yw, BB, HSTP⟩ := hcut
            clear Y3
            have HWM := Lib.hid (show he = true → IntKind.i64.wrap (hm + 1) = hm + 1 from fun q => by
              rw [HHE.out] at q
              have q2 := of_decide_eq_true (Bool.and_eq_true_iff.1 q).2
              have hmm : 1 ≤ hm ∧ hm ≤ 16 := of_decide_eq_true (Bool.and_eq_true_iff.1 (HOH.out q2)).2
              exact IntWalk.i64_in _ ⟨by omega, by omega⟩)
            clear HOH
            have c0 := (yr).cell 0
            have c1 := (yr).cell 1
            have c2 := (yr).cell 2
            have c3 := (yr).cell 3
            have c4 := (yr).cell 4
            have c5 := (yr).cell 5
            have c6 := (yr).cell 6
            have c7 := (yr).cell 7
            have c8 := (yr).cell 8
            simp only [List.getElem?_toArray, List.getElem?_cons_zero, List.getElem?_cons_succ] at c0 c1 c2 c3 c4 c5 c6 c7 c8
            have Y7 := Lib.hid (And.intro yr (And.intro yc (And.intro yp (And.intro ya (And.intro yw BB)))))
            clear yr yc yp ya yw BB
            have HRc : Hid (∀ W, Calls Tryd.prog 18 #[.agg #[.int .u32 pa, .int .i64 pm, .int .i64 st2, .int .i64 me2, .int .i64 lo2, .int .i64 fa2, .int .u32 nx2, .int .i64 du2, .bool ch2]] W fun e w' => e = .returned (.bool true) ∧ Below W.heap.size W w') := Lib.hid (fun W => by
              have q := HR.out st2 me2 lo2 fa2 nx2 du2 ch2 W HSTP.out.1.2.2.2.1
              rw [show okR pa pm st2 me2 lo2 fa2 nx2 du2 ch2 = true from HSTP.out.1.1] at q
              exact q)
            go_wp2_with (go_at_call 12; refine (num_any _ _).mono ?_; rintro e wn ⟨rfl, rfl⟩)
            refine (HRc.out _).mono ?_
            rintro e w8 ⟨rfl, b8⟩
            obtain ⟨yr, yc, yp, ya, yw, BB⟩ := Y7.out
            clear c0 c1 c2 c3 c4 c5 c6 c7 c8
            replace yr := yr.below b8 yr.lt
            replace yc := yc.below b8 yc.lt
            replace yp := yp.below b8 yp.lt
            replace ya := ya.below b8 ya.lt
            replace yw := yw.below b8 yw.lt
            replace BB := bnext BB b8
            clear b8 HRc Y7
            have c0 := (yr).cell 0
            have c1 := (yr).cell 1
            have c2 := (yr).cell 2
            have c3 := (yr).cell 3
            have c4 := (yr).cell 4
            have c5 := (yr).cell 5
            have c6 := (yr).cell 6
            have c7 := (yr).cell 7
            have c8 := (yr).cell 8
            simp only [List.getElem?_toArray, List.getElem?_cons_zero, List.getElem?_cons_succ] at c0 c1 c2 c3 c4 c5 c6 c7 c8
            have kp0 := (yp).cell 0
            have kp1 := (yp).cell 1
            simp only [List.getElem?_toArray, List.getElem?_cons_zero, List.getElem?_cons_succ] at kp0 kp1
            have Y8 := Lib.hid (And.intro yr (And.intro yc (And.intro yp (And.intro ya (And.intro yw BB)))))
            clear yr yc yp ya yw BB
            go_upto_region 21 with fail
            clear kp0 kp1
            clear c0 c1 c2 c3 c4 c5 c6 c7 c8
            go_cut [13] from 40 to 241 (fun s0 wx => s0 = .bool he ∧ w8 = wx)
            case first =>
              as_aux_lemma =>
                obtain ⟨yr, yc, yp, ya, yw, BB⟩ := Y8.out
                have ca0 := (ya).cell 0
                have ca1 := (ya).cell 1
                have ca2 := (ya).cell 2
                have ca3 := (ya).cell 3
                have ca4 := (ya).cell 4
                simp only [List.getElem?_toArray, List.getElem?_cons_zero, List.getElem?_cons_succ] at ca0 ca1 ca2 ca3 ca4
                clear yr yc yp ya yw BB
                by_cases s3 : wh < 5
                case pos =>
                  by_cases s4 : 0 ≤ wh
                  case pos =>
                    have hh1 : he = true := by rw [HHE.out]; simp; exact ⟨s4, s3⟩
                    have d3 : decide (wh < 5) = true := by simpa using s3
                    have d5 : decide (0 ≤ wh) = true := by simpa using s4
                    go_wp2_with fail
                    go_meet
                    case rel => exact ⟨by rw [hh1], rfl⟩
                  case neg =>
                    have hh1 : he = false := by rw [HHE.out]; simp; omega
                    have d5 : decide (0 ≤ wh) = false := by simpa using s4
                    go_wp2_with fail
                    go_meet
                    case rel => exact ⟨by rw [hh1], rfl⟩
                case neg =>
                  have hh1 : he = false := by rw [HHE.out]; simp; omega
                  have d3 : decide (wh < 5) = false := by simpa using s3
                  have d5 : decide (0 ≤ wh) = true := by simp; omega
                  go_wp2_with fail
                  go_meet
                  case rel => exact ⟨by rw [hh1], rfl⟩
            case rest =>
            obtain ⟨rfl, hwc⟩ := hcut
            subst hwc
            clear HHE
            obtain ⟨yr, yc, yp, ya, yw, BB⟩ := Y8.out
            have c0 := (yr).cell 0
            have c1 := (yr).cell 1
            have c2 := (yr).cell 2
            have c3 := (yr).cell 3
            have c4 := (yr).cell 4
            have c5 := (yr).cell 5
            have c6 := (yr).cell 6
            have c7 := (yr).cell 7
            have c8 := (yr).cell 8
            simp only [List.getElem?_toArray, List.getElem?_cons_zero, List.getElem?_cons_succ] at c0 c1 c2 c3 c4 c5 c6 c7 c8
            have q0 := (yw).cell 0
            have q1 := (yw).cell 1
            have q2 := (yw).cell 2
            have q3 := (yw).cell 3
            have q4 := (yw).cell 4
            have q5 := (yw).cell 5
            have q6 := (yw).cell 6
            have q7 := (yw).cell 7
            have q8 := (yw).cell 8
            simp only [List.getElem?_toArray, List.getElem?_cons_zero, List.getElem?_cons_succ] at q0 q1 q2 q3 q4 q5 q6 q7 q8
            have ca0 := (ya).cell 0
            have ca1 := (ya).cell 1
            have ca2 := (ya).cell 2
            have ca3 := (ya).cell 3
            have ca4 := (ya).cell 4
            simp only [List.getElem?_toArray, List.getElem?_cons_zero, List.getElem?_cons_succ] at ca0 ca1 ca2 ca3 ca4
            clear yr yc yp ya yw BB
            have hc1 : ((st2 == 2) && ((me2 != me1) || (fa2 != fa1) || ((nx2 : Int) != nx1) || (st1 != 2)) && !(he && (fa2 == hf) && ((nx2 : Int) == hx) && (me2 == hm + 1))) = false := kept_c1 HSTP.out.2
            have hc2 : (((st1 == 2) && (st2 == 2) && he && (fa2 == hf) && ((nx2 : Int) == hx) && (me2 != hm + 1)) || ((st1 == 3) && (st2 == 2) && decide (lo1 ≤ me2))) = false := kept_c2 HSTP.out.2
            obtain ⟨b1, f1⟩ : ∃ b, (st2 == 2) = b := ⟨_, rfl⟩
            obtain ⟨b2, f2⟩ : ∃ b, (me2 != me1) = b := ⟨_, rfl⟩
            obtain ⟨b3, f3⟩ : ∃ b, (fa2 != fa1) = b := ⟨_, rfl⟩
            obtain ⟨b4, f4⟩ : ∃ b, ((nx2 : Int) != nx1) = b := ⟨_, rfl⟩
            obtain ⟨b5, f5⟩ : ∃ b, (st1 != 2) = b := ⟨_, rfl⟩
            obtain ⟨b6, f6⟩ : ∃ b, (fa2 == hf) = b := ⟨_, rfl⟩
            obtain ⟨b7, f7⟩ : ∃ b, ((nx2 : Int) == hx) = b := ⟨_, rfl⟩
            obtain ⟨b8, f8⟩ : ∃ b, (me2 == hm + 1) = b := ⟨_, rfl⟩
            obtain ⟨c1', g1⟩ : ∃ b, (st1 == 2) = b := ⟨_, rfl⟩
            obtain ⟨c2', g2⟩ : ∃ b, (me2 != hm + 1) = b := ⟨_, rfl⟩
            obtain ⟨c3', g3⟩ : ∃ b, (st1 == 3) = b := ⟨_, rfl⟩
            obtain ⟨c4', g4⟩ : ∃ b, decide (lo1 ≤ me2) = b := ⟨_, rfl⟩
            rw [f1, f2, f3, f4, f5, f6, f7, f8] at hc1
            rw [f1, f6, f7, g1, g2, g3, g4] at hc2
            have HC1 := Lib.hid hc1
            have HC2 := Lib.hid hc2
            clear hc1 hc2
            go_upto_region 22 with fail
            clear c0 c1 c4 c7 c8 q0 q1 q7 q8 ca0 ca4
            go_cut [188] from 40 to 241 (fun s0 wx => s0 = .bool false ∧ w8 = wx)
            case first =>
              as_aux_lemma =>
                cases b1
                case false =>
                  go_wp2_with fail
                  all_goals (go_meet; exact ⟨rfl, rfl⟩)
                case true =>
                  cases b2
                  case false =>
                    cases b3
                    case false =>
                      cases b4
                      case false =>
                        cases b5
                        case false =>
                          go_wp2_with fail
                          all_goals (go_meet; exact ⟨rfl, rfl⟩)
                        case true =>
                          cases he
                          case false =>
                            (have q := HC1.out; simp at q)
                          case true =>
                            have hwm := HWM.out rfl
                            cases b6
                            case false =>
                              (have q := HC1.out; simp at q)
                            case true =>
                              cases b7
                              case false =>
                                (have q := HC1.out; simp at q)
                              case true =>
                                cases b8
                                case false =>
                                  (have q := HC1.out; simp at q)
                                case true =>
                                  go_wp2_with fail
                                  all_goals (go_meet; exact ⟨rfl, rfl⟩)
                      case true =>
                        cases he
                        case false =>
                          (have q := HC1.out; simp at q)
                        case true =>
                          have hwm := HWM.out rfl
                          cases b6
                          case false =>
                            (have q := HC1.out; simp at q)
                          case true =>
                            cases b7
                            case false =>
                              (have q := HC1.out; simp at q)
                            case true =>
                              cases b8
                              case false =>
                                (have q := HC1.out; simp at q)
                              case true =>
                                go_wp2_with fail
                                all_goals (go_meet; exact ⟨rfl, rfl⟩)
                    case true =>
                      cases he
                      case false =>
                        (have q := HC1.out; simp at q)
                      case true =>
                        have hwm := HWM.out rfl
                        cases b6
                        case false =>
                          (have q := HC1.out; simp at q)
                        case true =>
                          cases b7
                          case false =>
                            (have q := HC1.out; simp at q)
                          case true =>
                            cases b8
                            case false =>
                              (have q := HC1.out; simp at q)
                            case true =>
                              go_wp2_with fail
                              all_goals (go_meet; exact ⟨rfl, rfl⟩)
                  case true =>
                    cases he
                    case false =>
                      (have q := HC1.out; simp at q)
                    case true =>
                      have hwm := HWM.out rfl
                      cases b6
                      case false =>
                        (have q := HC1.out; simp at q)
                      case true =>
                        cases b7
                        case false =>
                          (have q := HC1.out; simp at q)
                        case true =>
                          cases b8
                          case false =>
                            (have q := HC1.out; simp at q)
                          case true =>
                            go_wp2_with fail
                            all_goals (go_meet; exact ⟨rfl, rfl⟩)
            case rest =>
            obtain ⟨rfl, hwc⟩ := hcut
            subst hwc
            go_upto_region 24 with fail
            go_cut [241] from 40 to 241 (fun s0 wx => s0 = .bool false ∧ w8 = wx)
            case first =>
              as_aux_lemma =>
                cases c1'
                case false =>
                  cases c3'
                  case false =>
                    go_wp2_with fail
                    all_goals (go_meet; exact ⟨rfl, rfl⟩)
                  case true =>
                    cases b1
                    case false =>
                      go_wp2_with fail
                      all_goals (go_meet; exact ⟨rfl, rfl⟩)
                    case true =>
                      cases c4'
                      case false =>
                        go_wp2_with fail
                        all_goals (go_meet; exact ⟨rfl, rfl⟩)
                      case true =>
                        (have q := HC2.out; simp at q)
                case true =>
                  cases b1
                  case false =>
                    cases c3'
                    case false =>
                      go_wp2_with fail
                      all_goals (go_meet; exact ⟨rfl, rfl⟩)
                    case true =>
                      go_wp2_with fail
                      all_goals (go_meet; exact ⟨rfl, rfl⟩)
                  case true =>
                    cases he
                    case false =>
                      cases c3'
                      case false =>
                        go_wp2_with fail
                        all_goals (go_meet; exact ⟨rfl, rfl⟩)
                      case true =>
                        cases c4'
                        case false =>
                          go_wp2_with fail
                          all_goals (go_meet; exact ⟨rfl, rfl⟩)
                        case true =>
                          (have q := HC2.out; simp at q)
                    case true =>
                      have hwm := HWM.out rfl
                      cases b6
                      case false =>
                        cases c3'
                        case false =>
                          go_wp2_with fail
                          all_goals (go_meet; exact ⟨rfl, rfl⟩)
                        case true =>
                          cases c4'
                          case false =>
                            go_wp2_with fail
                            all_goals (go_meet; exact ⟨rfl, rfl⟩)
                          case true =>
                            (have q := HC2.out; simp at q)
                      case true =>
                        cases b7
                        case false =>
                          cases c3'
                          case false =>
                            go_wp2_with fail
                            all_goals (go_meet; exact ⟨rfl, rfl⟩)
                          case true =>
                            cases c4'
                            case false =>
                              go_wp2_with fail
                              all_goals (go_meet; exact ⟨rfl, rfl⟩)
                            case true =>
                              (have q := HC2.out; simp at q)
                        case true =>
                          cases c2'
                          case false =>
                            cases c3'
                            case false =>
                              go_wp2_with fail
                              all_goals (go_meet; exact ⟨rfl, rfl⟩)
                            case true =>
                              cases c4'
                              case false =>
                                go_wp2_with fail
                                all_goals (go_meet; exact ⟨rfl, rfl⟩)
                              case true =>
                                (have q := HC2.out; simp at q)
                          case true =>
                            (have q := HC2.out; simp at q)
            case rest =>
            obtain ⟨rfl, hwc⟩ := hcut
            subst hwc
            clear c2 c3 c5 c6 q2 q3 q4 q5 q6 ca1 ca2 ca3
            go_wp2_with fail
            go_roundw
            case rel =>
              obtain ⟨yr, yc, yp, ya, yw, BB⟩ := Y8.out
              refine ⟨i + 1, nw + mo, st2, me2, lo2, fa2, nx2, du2, ch2, rfl, by go_num, by omega, by omega, by omega, yr, yc, yp, BB, Lib.hid ⟨HSTP.out.1.1, HSTP.out.1.2.2.2.1, fun q => ?_⟩⟩
              have hi3 := HI.out.2.2
              rcases HSTP.out.1.2.2.2.2 q with q1 | ⟨q1, q2⟩
              · exact q1
              · have := hi3 q1; simp only at q2; omega
            case measure => simp [intOf]; omega
    case neg =>
      obtain rfl : i = N := by omega
      have hnw : nw ≤ 40000 := by omega
      have c0 := (yr).cell 0
      have c1 := (yr).cell 1
      have c2 := (yr).cell 2
      have c3 := (yr).cell 3
      have c4 := (yr).cell 4
      have c5 := (yr).cell 5
      have c6 := (yr).cell 6
      have c7 := (yr).cell 7
      have c8 := (yr).cell 8
      simp only [List.getElem?_toArray, List.getElem?_cons_zero, List.getElem?_cons_succ] at c0 c1 c2 c3 c4 c5 c6 c7 c8
      by_cases h2 : st1 = 2
      case neg =>
        have d2 : (st1 != 2) = true := by simpa using h2
        clear yr yc yp
        have HWc := HW.out _ BB
        go_wp2_with fail
        refine HWc.mono ?_
        rintro e w9 ⟨rfl, b9⟩
        go_wp2_with fail
        go_ret
        exact ⟨rfl, bnext BB b9⟩
      subst h2
      have hb0 := hbd.out HOC.out
      have hd0 : 0 ≤ du1 ∧ du1 ≤ 1040000 := by
        have k := (ok2 pa pm me1 lo1 fa1 nx1 du1 ch1).1 HI.out.1
        have := HI.out.2.2 rfl
        omega
      obtain ⟨d0, hdd⟩ : ∃ d0, d0 = du1 := ⟨_, rfl⟩
      have HQ0 : Hid (okRt ⟨pa, pm, 2, me1, lo1, fa1, nx1, du1, ch1⟩ = true ∧ nx1 < 4294967296 ∧ du1 = d0) := Lib.hid ⟨HI.out.1, HI.out.2.1, hdd.symm⟩
      rw [← hdd] at hd0
      have hw1 : IntKind.i64.wrap (d0 + h) = d0 + h := IntWalk.i64_in _ ⟨by omega, by omega⟩
      have hw2 : IntKind.i64.wrap (d0 + h + g) = d0 + h + g := IntWalk.i64_in _ ⟨by omega, by omega⟩
      have hw3 : IntKind.i64.wrap (h + g) = h + g := IntWalk.i64_in _ ⟨by omega, by omega⟩
      have hst0 : 0 ≤ (h + g).tdiv 8 ∧ (h + g).tdiv 8 ≤ 250000 := by
        have : (h + g).tdiv 8 = (h + g) / 8 := Int.tdiv_eq_ediv_of_nonneg (by omega)
        omega
      have HB0 := Lib.hid (And.intro hb0 (And.intro hd0 hst0))
      have YS := Lib.hid (And.intro yr (And.intro yc BB))
      rw [← hdd] at c7
      clear hdd hb0 hnw hi hnw0 hnw1 hlt
      have k0 := (yc).cell 0
      have k1 := (yc).cell 1
      have k2 := (yc).cell 2
      have k3 := (yc).cell 3
      have k4 := (yc).cell 4
      have k5 := (yc).cell 5
      have k6 := (yc).cell 6
      have k7 := (yc).cell 7
      have k8 := (yc).cell 8
      simp only [List.getElem?_toArray, List.getElem?_cons_zero, List.getElem?_cons_succ] at k0 k1 k2 k3 k4 k5 k6 k7 k8
      clear yr yc yp BB
      go_wp2_with fail
      clear c0 c1 c2 c3 c4 c5 c6 c7 c8 k0 k1 k2 k3 k4 k5 k6 k7 k8
      go_loopw [15] (fun av wr => ∃ (at1 : Int) (st3 me3 lo3 fa3 : Int) (nx3 : Nat) (du3 : Int) (ch3 : Bool), av = .int .i64 at1 ∧ d0 ≤ at1 ∧ at1 ≤ 5000000 ∧ Blk wr br 31 #[.int .u32 pa, .int .i64 pm, .int .i64 st3, .int .i64 me3, .int .i64 lo3, .int .i64 fa3, .int .u32 nx3, .int .i64 du3, .bool ch3] ∧ Blk wr w.heap.size 24 #[.int .i64 p, .int .i64 j, .int .i64 t, .int .i64 h, .int .i64 g, .int .i64 q, .int .i64 s, .int .i64 cp, .slice A n k] ∧ Below w.heap.size w wr ∧ Hid (okRt ⟨pa, pm, st3, me3, lo3, fa3, nx3, du3, ch3⟩ = true ∧ nx3 < 4294967296 ∧ ((st3 = 2 ∧ at1 = d0 ∧ du3 = d0) ∨ (st3 = 3 ∧ du3 = d0 + h) ∨ (st3 = 4 ∧ d0 + h + g ≤ du3) ∨ (st3 = 0 ∧ d0 + h + g ≤ at1)))) (fun av _ => 6000000 - (intOf av).toNat)
      case atStart =>
        exact ⟨d0, 2, me1, lo1, fa1, nx1, du1, ch1, rfl, Int.le_refl _, by omega, YS.out.1, YS.out.2.1, YS.out.2.2, Lib.hid ⟨HQ0.out.1, HQ0.out.2.1, Or.inl ⟨rfl, rfl, HQ0.out.2.2⟩⟩⟩
      case round =>
        obtain ⟨at1, st3, me3, lo3, fa3, nx3, du3, ch3, rfl, hat0, hat1, yr, yc, BB, HQ⟩ := hrel
        have k0 := (yc).cell 0
        have k1 := (yc).cell 1
        have k2 := (yc).cell 2
        have k3 := (yc).cell 3
        have k4 := (yc).cell 4
        have k5 := (yc).cell 5
        have k6 := (yc).cell 6
        have k7 := (yc).cell 7
        have k8 := (yc).cell 8
        simp only [List.getElem?_toArray, List.getElem?_cons_zero, List.getElem?_cons_succ] at k0 k1 k2 k3 k4 k5 k6 k7 k8
        by_cases hle : at1 ≤ d0 + h + g
        case neg =>
          have d5 : decide (at1 ≤ d0 + h + g) = false := by simp; omega
          have HWc := HW.out _ BB
          clear yr yc hle
          go_wp2_with fail
          refine HWc.mono ?_
          rintro e w9 ⟨rfl, b9⟩
          go_wp2_with fail
          go_ret
          exact ⟨rfl, bnext BB b9⟩
        case pos =>
          have d5 : decide (at1 ≤ d0 + h + g) = true := by simp; omega
          have HLE := Lib.hid hle
          have YI := Lib.hid (And.intro yr (And.intro yc BB))
          clear yr yc BB hle
          go_wp2_with fail
          clear k0 k1 k2 k3 k4 k5 k6 k7 k8
          go_loopw [16] (fun kv wr => ∃ (kk : Nat) (st4 me4 lo4 fa4 : Int) (nx4 : Nat) (du4 : Int) (ch4 : Bool), kv = .int .i64 kk ∧ kk ≤ 4 ∧ Blk wr br 31 #[.int .u32 pa, .int .i64 pm, .int .i64 st4, .int .i64 me4, .int .i64 lo4, .int .i64 fa4, .int .u32 nx4, .int .i64 du4, .bool ch4] ∧ Blk wr w.heap.size 24 #[.int .i64 p, .int .i64 j, .int .i64 t, .int .i64 h, .int .i64 g, .int .i64 q, .int .i64 s, .int .i64 cp, .slice A n k] ∧ Below w.heap.size w wr ∧ Hid (okRt ⟨pa, pm, st4, me4, lo4, fa4, nx4, du4, ch4⟩ = true ∧ nx4 < 4294967296 ∧ ((st4 = 2 ∧ at1 = d0 ∧ du4 = d0) ∨ (st4 = 3 ∧ du4 = d0 + h) ∨ (st4 = 4 ∧ d0 + h + g ≤ du4) ∨ (st4 = 0 ∧ d0 + h + g ≤ at1)) ∧ (1 ≤ kk → st4 ≠ 2))) (fun kv _ => 4 - (intOf kv).toNat)
          case atStart =>
            exact ⟨0, st3, me3, lo3, fa3, nx3, du3, ch3, rfl, by omega, YI.out.1, YI.out.2.1, YI.out.2.2, Lib.hid ⟨HQ.out.1, HQ.out.2.1, HQ.out.2.2, fun q => by omega⟩⟩
          case round =>
            obtain ⟨kk, st4, me4, lo4, fa4, nx4, du4, ch4, rfl, hkk, yr, yc, BB, HP⟩ := hrel
            by_cases hk4 : kk < 4
            case pos =>
              as_aux_lemma =>
                have d6 : decide ((kk : Int) < 4) = true := by simp; omega
                have hwk : IntKind.i64.wrap ((kk : Int) + 1) = (kk : Int) + 1 := IntWalk.i64_in _ ⟨by omega, by omega⟩
                have h0 : askR (oc && okR pa pm st4 me4 lo4 fa4 nx4 du4 ch4) at1 = 0 := by
                  rw [HOC.out, show okR pa pm st4 me4 lo4 fa4 nx4 du4 ch4 = true from HP.out.1]
                  show (if inF 0 4611686018426387904 at1 = true then (0 : Int) else 170) = 0
                  have := HB0.out.2.1
                  exact if_pos (decide_eq_true ⟨by omega, by omega⟩)
                have hbb := HB0.out
                have hstep := (exp_step h g ⟨pa, pm, st4, me4, lo4, fa4, nx4, du4, ch4⟩ at1 HP.out.1 HP.out.2.1 ⟨by omega, by omega⟩ ⟨by omega, by omega⟩ ⟨by omega, by omega⟩ 0 0 0).1
                have hq5 := exp_Q h g d0 at1 ⟨pa, pm, st4, me4, lo4, fa4, nx4, du4, ch4⟩ hat0 HP.out.2.2.1
                obtain ⟨⟨a2, m2, st5, me5, lo5, fa5, nx5, du5, ch5⟩, hr2⟩ : ∃ r2, r2 = expR h g ⟨pa, pm, st4, me4, lo4, fa4, nx4, du4, ch4⟩ at1 := ⟨_, rfl⟩
                rw [← hr2] at hstep hq5
                have hpa2 : pa = a2 := hstep.2.1.symm
                have hpm2 : pm = m2 := hstep.2.2.1.symm
                subst hpa2 hpm2
                have HSC : Hid (Calls Tryd.prog 24 #[.agg #[.int .i64 p, .int .i64 j, .int .i64 t, .int .i64 h, .int .i64 g, .int .i64 q, .int .i64 s, .int .i64 cp, .slice A n k], .agg #[.int .u32 pa, .int .i64 pm, .int .i64 st4, .int .i64 me4, .int .i64 lo4, .int .i64 fa4, .int .u32 nx4, .int .i64 du4, .bool ch4], .int .i64 at1] wr fun e w' => e = .returned (.tuple #[.agg #[.int .u32 pa, .int .i64 pm, .int .i64 st5, .int .i64 me5, .int .i64 lo5, .int .i64 fa5, .int .u32 nx5, .int .i64 du5, .bool ch5], .int .i64 0]) ∧ Below wr.heap.size wr w') := Lib.hid (by
                  have q := HX.out at1 st4 me4 lo4 fa4 nx4 du4 ch4 wr BB HP.out.2.1
                  rw [h0, show outR 0 (expR h g ⟨pa, pm, st4, me4, lo4, fa4, nx4, du4, ch4⟩ at1) = expR h g ⟨pa, pm, st4, me4, lo4, fa4, nx4, du4, ch4⟩ at1 from if_pos rfl, ← hr2] at q
                  exact q)
                have HSTP := Lib.hid (And.intro hstep hq5)
                have c0 := (yr).cell 0
                have c1 := (yr).cell 1
                have c2 := (yr).cell 2
                have c3 := (yr).cell 3
                have c4 := (yr).cell 4
                have c5 := (yr).cell 5
                have c6 := (yr).cell 6
                have c7 := (yr).cell 7
                have c8 := (yr).cell 8
                simp only [List.getElem?_toArray, List.getElem?_cons_zero, List.getElem?_cons_succ] at c0 c1 c2 c3 c4 c5 c6 c7 c8
                have k0 := (yc).cell 0
                have k1 := (yc).cell 1
                have k2 := (yc).cell 2
                have k3 := (yc).cell 3
                have k4 := (yc).cell 4
                have k5 := (yc).cell 5
                have k6 := (yc).cell 6
                have k7 := (yc).cell 7
                have k8 := (yc).cell 8
                simp only [List.getElem?_toArray, List.getElem?_cons_zero, List.getElem?_cons_succ] at k0 k1 k2 k3 k4 k5 k6 k7 k8
                have Y4 := Lib.hid (And.intro yr (And.intro yc BB))
                clear hstep hq5 h0 hr2 hbb yr yc BB
                go_wp2_with fail
                refine HSC.out.mono ?_
                rintro e w6 ⟨rfl, b6⟩
                obtain ⟨yr, yc, BB⟩ := Y4.out
                clear c0 c1 c2 c3 c4 c5 c6 c7 c8 k0 k1 k2 k3 k4 k5 k6 k7 k8
                replace yr := (yr.below b6 yr.lt).alloc (.cells #[.int .u32 pa, .int .i64 pm, .int .i64 st5, .int .i64 me5, .int .i64 lo5, .int .i64 fa5, .int .u32 nx5, .int .i64 du5, .bool ch5] 31)
                replace yc := (yc.below b6 yc.lt).alloc (.cells #[.int .u32 pa, .int .i64 pm, .int .i64 st5, .int .i64 me5, .int .i64 lo5, .int .i64 fa5, .int .u32 nx5, .int .i64 du5, .bool ch5] 31)
                replace BB := balloc (bnext BB b6) (.cells #[.int .u32 pa, .int .i64 pm, .int .i64 st5, .int .i64 me5, .int .i64 lo5, .int .i64 fa5, .int .u32 nx5, .int .i64 du5, .bool ch5] 31)
                have HYR : (w6.alloc (.cells #[.int .u32 pa, .int .i64 pm, .int .i64 st5, .int .i64 me5, .int .i64 lo5, .int .i64 fa5, .int .u32 nx5, .int .i64 du5, .bool ch5] 31)).heap[br]? = some (.cells #[.int .u32 pa, .int .i64 pm, .int .i64 st4, .int .i64 me4, .int .i64 lo4, .int .i64 fa4, .int .u32 nx4, .int .i64 du4, .bool ch4] 31 (0, 0)) := yr
                have Q7 := Lib.hid (And.intro (show Blk ((w6.alloc (.cells #[.int .u32 pa, .int .i64 pm, .int .i64 st5, .int .i64 me5, .int .i64 lo5, .int .i64 fa5, .int .u32 nx5, .int .i64 du5, .bool ch5] 31)).setRow br #[.int .u32 pa, .int .i64 pm, .int .i64 st5, .int .i64 me5, .int .i64 lo5, .int .i64 fa5, .int .u32 nx5, .int .i64 du5, .bool ch5]) br 31 #[.int .u32 pa, .int .i64 pm, .int .i64 st5, .int .i64 me5, .int .i64 lo5, .int .i64 fa5, .int .u32 nx5, .int .i64 du5, .bool ch5] from setRow_heap _ br _ _ _ _ HYR) (And.intro (show Blk ((w6.alloc (.cells #[.int .u32 pa, .int .i64 pm, .int .i64 st5, .int .i64 me5, .int .i64 lo5, .int .i64 fa5, .int .u32 nx5, .int .i64 du5, .bool ch5] 31)).setRow br #[.int .u32 pa, .int .i64 pm, .int .i64 st5, .int .i64 me5, .int .i64 lo5, .int .i64 fa5, .int .u32 nx5, .int .i64 du5, .bool ch5]) w.heap.size 24 #[.int .i64 p, .int .i64 j, .int .i64 t, .int .i64 h, .int .i64 g, .int .i64 q, .int .i64 s, .int .i64 cp, .slice A n k] from (setRow_other _ br w.heap.size #[.int .u32 pa, .int .i64 pm, .int .i64 st5, .int .i64 me5, .int .i64 lo5, .int .i64 fa5, .int .u32 nx5, .int .i64 du5, .bool ch5] (by omega)).trans yc) (below_setRow (B := w.heap.size) (g := br) BB (by omega) #[.int .u32 pa, .int .i64 pm, .int .i64 st5, .int .i64 me5, .int .i64 lo5, .int .i64 fa5, .int .u32 nx5, .int .i64 du5, .bool ch5])))
                have HYR2 := Lib.hid HYR
                clear yr yc BB b6 HYR
                go_wp2_with (first | (go_at_call 12; refine (num_any _ _).mono ?_; rintro e wn ⟨rfl, rfl⟩) | (refine wpList_store_rowTo rfl 31 (.tmp 7) (.tmp 281) rfl rfl br #[.int .u32 pa, .int .i64 pm, .int .i64 st5, .int .i64 me5, .int .i64 lo5, .int .i64 fa5, .int .u32 nx5, .int .i64 du5, .bool ch5] ?hLo1 ?hLo2 31 #[.int .u32 pa, .int .i64 pm, .int .i64 st4, .int .i64 me4, .int .i64 lo4, .int .i64 fa4, .int .u32 nx4, .int .i64 du4, .bool ch4] HYR2.out ?hLo3 ?hLo4 ?hLo5 ?hLo6; go_must (case hLo1 => rfl); go_must (case hLo2 => rfl); go_must (case hLo3 => kernel_rfl); go_must (case hLo4 => rfl); go_must (case hLo5 => first | kernel_rfl | simp [Value.oneCell'])))
                go_roundw
                case rel =>
                  exact ⟨kk + 1, st5, me5, lo5, fa5, nx5, du5, ch5, rfl, by omega, Q7.out.1, Q7.out.2.1, Q7.out.2.2, Lib.hid ⟨HSTP.out.1.1, HSTP.out.1.2.2.2.1, HSTP.out.2.1, fun _ => HSTP.out.2.2⟩⟩
                case measure => simp [intOf]; omega
            case neg =>
              have d6 : decide ((kk : Int) < 4) = false := by simp; omega
              have hn2 : st4 ≠ 2 := HP.out.2.2.2 (by omega)
              obtain ⟨sp, hsp⟩ : ∃ sp, sp = max 1 ((h + g).tdiv 8) := ⟨_, rfl⟩
              have hb := HB0.out
              have hle := HLE.out
              have hwa : IntKind.i64.wrap (at1 + max 1 ((h + g).tdiv 8)) = at1 + max 1 ((h + g).tdiv 8) := IntWalk.i64_in _ ⟨by omega, by omega⟩
              have hq := HP.out.2.2.1
              have c0 := (yr).cell 0
              have c1 := (yr).cell 1
              have c2 := (yr).cell 2
              have c3 := (yr).cell 3
              have c4 := (yr).cell 4
              have c5 := (yr).cell 5
              have c6 := (yr).cell 6
              have c7 := (yr).cell 7
              have c8 := (yr).cell 8
              simp only [List.getElem?_toArray, List.getElem?_cons_zero, List.getElem?_cons_succ] at c0 c1 c2 c3 c4 c5 c6 c7 c8
              have k0 := (yc).cell 0
              have k1 := (yc).cell 1
              have k2 := (yc).cell 2
              have k3 := (yc).cell 3
              have k4 := (yc).cell 4
              have k5 := (yc).cell 5
              have k6 := (yc).cell 6
              have k7 := (yc).cell 7
              have k8 := (yc).cell 8
              simp only [List.getElem?_toArray, List.getElem?_cons_zero, List.getElem?_cons_succ] at k0 k1 k2 k3 k4 k5 k6 k7 k8
              by_cases hs0 : st4 = 0
              case pos =>
                subst hs0
                as_aux_lemma =>
                  have d7 : decide (at1 < d0 + h + g) = false := by simp; omega
                  have Y4 := Lib.hid (And.intro yr (And.intro yc BB))
                  have HF4 := Lib.hid (And.intro hq (And.intro hb hle))
                  clear yr yc BB hq hb hle hsp sp
                  go_wp2_with fail
                  go_roundw
                  case rel =>
                    have hh := HF4.out
                    exact ⟨at1 + max 1 ((h + g).tdiv 8), 0, me4, lo4, fa4, nx4, du4, ch4, rfl, by omega, by omega, Y4.out.1, Y4.out.2.1, Y4.out.2.2, Lib.hid ⟨HP.out.1, HP.out.2.1, by omega⟩⟩
                  case measure => have hh := HF4.out; simp [intOf]; omega
              case neg =>
                as_aux_lemma =>
                  have d8 : (st4 == 2) = false := by simpa using hn2
                  have d9 : (st4 != 0) = true := by simpa using hs0
                  have d10 : (st4 == 0) = false := by simpa using hs0
                  have hm16 : me4 = 16 := by
                    rcases (by omega : st4 = 3 ∨ st4 = 4) with e3 | e3
                    · subst e3; exact ((ok3 pa pm me4 lo4 fa4 nx4 du4 ch4).1 HP.out.1).2.2.1
                    · subst e3; exact ((ok4 pa pm me4 lo4 fa4 nx4 du4 ch4).1 HP.out.1).1
                  have HTc : Hid (∀ W, Calls Tryd.prog 19 #[.agg #[.int .u32 pa, .int .i64 pm, .int .i64 st4, .int .i64 me4, .int .i64 lo4, .int .i64 fa4, .int .u32 nx4, .int .i64 du4, .bool ch4], .int .i64 3] W fun e w' => e = .returned (.int .i64 16) ∧ Below W.heap.size W w') := Lib.hid (fun W => by
                    have q := HT.out st4 me4 lo4 fa4 nx4 du4 ch4 W HP.out.2.1
                    rw [show okR pa pm st4 me4 lo4 fa4 nx4 du4 ch4 = true from HP.out.1, show toldR true st4 me4 fa4 3 = 16 by unfold toldR; rw [d8, hm16]; simp] at q
                    exact q)
                  have Y4 := Lib.hid (And.intro yr (And.intro yc BB))
                  have HF4 := Lib.hid (And.intro hq (And.intro hb (And.intro hle (And.intro hn2 hs0))))
                  clear yr yc BB hq hb hle hsp sp hn2 hs0 hm16
                  go_wp2_with fail
                  refine (HTc.out _).mono ?_
                  rintro e w7 ⟨rfl, b7⟩
                  obtain ⟨yr, yc, BB⟩ := Y4.out
                  clear c0 c1 c2 c3 c4 c5 c6 c7 c8 k0 k1 k2 k3 k4 k5 k6 k7 k8
                  replace yr := yr.below b7 yr.lt
                  replace yc := yc.below b7 yc.lt
                  replace BB := bnext BB b7
                  clear b7
                  have c0 := (yr).cell 0
                  have c1 := (yr).cell 1
                  have c2 := (yr).cell 2
                  have c3 := (yr).cell 3
                  have c4 := (yr).cell 4
                  have c5 := (yr).cell 5
                  have c6 := (yr).cell 6
                  have c7 := (yr).cell 7
                  have c8 := (yr).cell 8
                  simp only [List.getElem?_toArray, List.getElem?_cons_zero, List.getElem?_cons_succ] at c0 c1 c2 c3 c4 c5 c6 c7 c8
                  have k0 := (yc).cell 0
                  have k1 := (yc).cell 1
                  have k2 := (yc).cell 2
                  have k3 := (yc).cell 3
                  have k4 := (yc).cell 4
                  have k5 := (yc).cell 5
                  have k6 := (yc).cell 6
                  have k7 := (yc).cell 7
                  have k8 := (yc).cell 8
                  simp only [List.getElem?_toArray, List.getElem?_cons_zero, List.getElem?_cons_succ] at k0 k1 k2 k3 k4 k5 k6 k7 k8
                  have Y5 := Lib.hid (And.intro yr (And.intro yc BB))
                  clear yr yc BB
                  go_wp2_with fail
                  go_roundw
                  case rel =>
                    have hh := HF4.out
                    exact ⟨at1 + max 1 ((h + g).tdiv 8), st4, me4, lo4, fa4, nx4, du4, ch4, rfl, by omega, by omega, Y5.out.1, Y5.out.2.1, Y5.out.2.2, Lib.hid ⟨HP.out.1, HP.out.2.1, by omega⟩⟩
                  case measure => have hh := HF4.out; simp [intOf]; omega
end Go.Proofs.YtgjeejdebneoaaaDoor
