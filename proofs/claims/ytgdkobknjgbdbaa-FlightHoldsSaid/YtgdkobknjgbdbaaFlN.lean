/- FlightNone: few, what is told of none, the walk. -/
import Derived.Test.YtgdkobknjgbdbaaFlA
namespace Go.Proofs.Ytgdkobknjgbdbaa
set_option linter.unusedVariables false
set_option linter.unusedSimpArgs false
open Go.RowKit Go.Shelf
set_option maxRecDepth 100000

/-- a call, as the statements have them -/
structure Ac where
  wh : Int
  pk : Int
  ml : Ml
  nw : Int
  dl : Int
def acL (x : Ac) : List Value := [.int .i64 x.wh, .int .i64 x.pk, .int .i64 x.ml.m.link, .int .i64 x.ml.m.frm, .int .i64 x.ml.m.dst, .int .u32 x.ml.m.src, .slice x.ml.A x.ml.m.bs.length x.ml.c, .int .i64 x.ml.m.sent, .int .i64 x.nw, .int .i64 x.dl]
def acA (x : Ac) : Array Value := #[.int .i64 x.wh, .int .i64 x.pk, .int .i64 x.ml.m.link, .int .i64 x.ml.m.frm, .int .i64 x.ml.m.dst, .int .u32 x.ml.m.src, .slice x.ml.A x.ml.m.bs.length x.ml.c, .int .i64 x.ml.m.sent, .int .i64 x.nw, .int .i64 x.dl]
theorem acL_len (x : Ac) : (acL x).length = 10 := rfl
def acC (l : List Ac) : List Value := l.flatMap acL
theorem ac_at {w : World} {B : Nat} {A : Option Addr} {l : List Ac} (h : Rd w B A (acC l)) {i : Nat} {x : Ac} (hi : l[i]? = some x) :
    ∃ b off, A = some ⟨b, off, none⟩ ∧ b < B ∧ w.cell? ⟨b, off + i * 10 + 6, none⟩ = some (.slice x.ml.A x.ml.m.bs.length x.ml.c) := by
  obtain ⟨b, off, e, hb, hc⟩ := rows_at acL_len (by omega) h hi
  simp only [Nat.add_assoc]
  exact ⟨b, off, e, hb, hc 6 _ rfl⟩
/-- are calls few, and of few bytes? -/
def fewB (l : List Ac) (many : Int) : Bool := decide ((l.length : Int) ≤ many) && decide (∀ x ∈ l, x.ml.m.bs.length ≤ 60)

set_option maxHeartbeats 1000000 in
theorem few19_any (l : List Ac) (n k : Nat) (hn : l.length = n) (many : Int) (A : Option Addr) (B : Nat) (w : World) (hr : Rd w B A (acC l)) (hk : n ≤ k ∧ k ≤ 9223372036854775807) :
    Calls Try.prog 17 #[.slice A n k, .int .i64 many] w fun e w' => e = .returned (.bool (fewB l many)) ∧ w = w' := by
  have HR := Lib.hid hr
  have HN := Lib.hid hn
  clear hr hn
  obtain ⟨hk1, hk2⟩ := hk
  by_cases hm : (n : Int) ≤ many
  case neg =>
    have hz : fewB l many = false := by simp [fewB, HN.out, hm]
    rw [hz]
    have hd : decide (many < (n : Int)) = true := decide_eq_true (by omega)
    clear hz
    go_enter Try.func17, Try.ntmps17
    go_wp2
    go_ret
    exact ⟨rfl, rfl⟩
  have hd : decide (many < (n : Int)) = false := decide_eq_false (by omega)
  have HZ := Lib.hid (show fewB l many = decide (∀ x ∈ l, x.ml.m.bs.length ≤ 60) by simp [fewB, HN.out, hm])
  go_enter Try.func17, Try.ntmps17
  go_wp2_with fail
  go_loop [5] (fun i => ∃ c : Nat, c ≤ n ∧ i = .int .i64 c ∧ Hid (∀ j, (hj : j < c) → (hl : j < l.length) → l[j].ml.m.bs.length ≤ 60)) (fun i => n - (intOf i).toNat)
  case atStart => exact ⟨0, by omega, rfl, Lib.hid (fun j hj => absurd hj (by omega))⟩
  case round =>
    obtain ⟨c, hc, rfl, HO⟩ := hrel
    by_cases hlt : c < n
    · have hcl : c < l.length := by have := HN.out; omega
      obtain ⟨b, off, rfl, hbb, c6⟩ := ac_at HR.out (List.getElem?_eq_getElem hcl)
      have HL := Lib.hid (show l[c].ml.m.bs.length ≤ 60 → ∀ j, (hj : j < c + 1) → (hl : j < l.length) → l[j].ml.m.bs.length ≤ 60 from fun h j hj hl => by
        rcases Nat.lt_or_ge j c with h' | h'
        · exact HO.out j h' hl
        · obtain rfl : j = c := by omega
          exact h)
      have HK := Lib.hid (show ¬ l[c].ml.m.bs.length ≤ 60 → fewB l many = false from fun h => by rw [HZ.out]; exact decide_eq_false (fun hh => h (hh _ (List.getElem_mem hcl))))
      have hi1 : (c : Int) < (n : Int) := by omega
      generalize l[c].ml.A = yA at *
      generalize l[c].ml.c = yc at *
      generalize l[c].ml.m.bs.length = yn at *
      by_cases hy : yn ≤ 60
      · have hdy : decide (60 < yn) = false := decide_eq_false (by omega)
        have hdz : decide ((60 : Int) < yn) = false := decide_eq_false (by omega)
        go_wp2_with fail
        go_round
        case rel => exact ⟨c + 1, by omega, by go_num, Lib.hid (HL.out hy)⟩
        case measure => simp [intOf]; omega
      · have hdy : decide (60 < yn) = true := decide_eq_true (by omega)
        have hdz : decide ((60 : Int) < yn) = true := decide_eq_true (by omega)
        go_wp2_with fail
        go_ret
        exact ⟨by rw [HK.out hy]; rfl, rfl⟩
    · obtain rfl : c = n := by omega
      go_wp2_with fail
      go_ret
      have hz : fewB l many = true := by
        rw [HZ.out]
        refine decide_eq_true (fun x hx => ?_)
        obtain ⟨j, hj, rfl⟩ := List.mem_iff_getElem.1 hx
        exact HO.out j (by have := HN.out; omega) hj
      exact ⟨by rw [hz]; rfl, rfl⟩

theorem copy_nil (w : World) : Calls Try.prog 26 #[.pointer none] w fun e w' => e = .returned (.pointer none) ∧ w = w' := by
  go_enter Try.func26, Try.ntmps26
  go_wp2_with (go_at_call 30; refine (live_nil _).mono ?_; rintro e w' ⟨rfl, rfl⟩)
  go_ret
  exact ⟨rfl, rfl⟩
theorem same_nil (w : World) : Calls Try.prog 27 #[.pointer none, .pointer none] w fun e w' => e = .returned (.bool true) ∧ w = w' := by
  go_enter Try.func27, Try.ntmps27
  go_wp2_with (go_at_call 30; refine (live_nil _).mono ?_; rintro e w' ⟨rfl, rfl⟩)
  go_ret
  exact ⟨rfl, rfl⟩

/-- the arguments' boxes -/
def NB (w : World) (x : Ac) (a b : Ml) (W : World) : Prop := Blk W w.heap.size 45 (acA x) ∧ Blk W (w.heap.size + 1) 33 (mlA a) ∧ Blk W (w.heap.size + 1 + 1) 33 (mlA b) ∧ Below w.heap.size w W
theorem NB.next {w W W' : World} {x : Ac} {a b : Ml} (h : NB w x a b W) (hb : Below W.heap.size W W') : NB w x a b W' := ⟨h.1.below hb h.1.lt, h.2.1.below hb h.2.1.lt, h.2.2.1.below hb h.2.2.1.lt, bnext h.2.2.2 hb⟩
theorem Blk.ten {w : World} {g : Nat} {t : TypeId} {a0 a1 a2 a3 a4 a5 a6 a7 a8 a9 : Value} (h : Blk w g t #[a0, a1, a2, a3, a4, a5, a6, a7, a8, a9]) : w.cell? ⟨g, 0, none⟩ = some a0 ∧ w.cell? ⟨g, 1, none⟩ = some a1 ∧ w.cell? ⟨g, 2, none⟩ = some a2 ∧ w.cell? ⟨g, 3, none⟩ = some a3 ∧ w.cell? ⟨g, 4, none⟩ = some a4 ∧ w.cell? ⟨g, 5, none⟩ = some a5 ∧ w.cell? ⟨g, 6, none⟩ = some a6 ∧ w.cell? ⟨g, 7, none⟩ = some a7 ∧ w.cell? ⟨g, 8, none⟩ = some a8 ∧ w.cell? ⟨g, 9, none⟩ = some a9 :=
  ⟨h.cell 0, h.cell 1, h.cell 2, h.cell 3, h.cell 4, h.cell 5, h.cell 6, h.cell 7, h.cell 8, h.cell 9⟩

set_option maxHeartbeats 8000000 in
theorem flightnone_walk (x : Ac) (a b : Ml) (w : World) (hx : Rd w w.heap.size x.ml.A (x.ml.m.bs.map b8)) (ha : Rd w w.heap.size a.A (a.m.bs.map b8)) (hb : Rd w w.heap.size b.A (b.m.bs.map b8)) :
    Calls Try.prog 6 #[.agg (acA x), .agg (mlA a), .agg (mlA b)] w fun e w' => e = .returned (.bool true) ∧ Below w.heap.size w w' := by
  have x0 := ((Blk.new w 45 (acA x)).alloc (.cells (mlA a) 33)).alloc (.cells (mlA b) 33)
  have x1 := (Blk.new (w.alloc (.cells (acA x) 45)) 33 (mlA a)).alloc (.cells (mlA b) 33)
  have x2 := Blk.new ((w.alloc (.cells (acA x) 45)).alloc (.cells (mlA a) 33)) 33 (mlA b)
  simp only [World.size_alloc] at x1 x2
  have B0 : Below w.heap.size w (((w.alloc (.cells (acA x) 45)).alloc (.cells (mlA a) 33)).alloc (.cells (mlA b) 33)) := balloc (balloc (balloc (Below.refl _ _) _) _) _
  have N0 := Lib.hid (show NB w x a b _ from ⟨x0, x1, x2, B0⟩)
  clear x0 x1 x2 B0
  have HFW := Lib.hid (fun W (G : Nat) (hG : W.heap.size = G) (hN : NB w x a b W) => by
    have hr := Rd.new W 45 (acL x)
    rw [hG] at hr
    exact few19_any [x] 1 1 rfl 1 (some ⟨G, 0, none⟩) (G + 1) (W.alloc (.cells (acA x) 45)) (by rw [show acC [x] = acL x by simp [acC]]; exact hr) (by omega))
  have HAB := Lib.hid (fun W (hN : NB w x a b W) => refsame_any a b W ((ha.below hN.2.2.2).more hN.2.2.2.size) ((hb.below hN.2.2.2).more hN.2.2.2.size))
  have HSAB := Lib.hid (fun W (hN : NB w x a b W) => samemail_any a b W ((ha.below hN.2.2.2).more hN.2.2.2.size) ((hb.below hN.2.2.2).more hN.2.2.2.size))
  have HSBA := Lib.hid (fun W (hN : NB w x a b W) => samemail_any b a W ((hb.below hN.2.2.2).more hN.2.2.2.size) ((ha.below hN.2.2.2).more hN.2.2.2.size))
  have HSAA := Lib.hid (fun W (hN : NB w x a b W) => samemail_any a a W ((ha.below hN.2.2.2).more hN.2.2.2.size) ((ha.below hN.2.2.2).more hN.2.2.2.size))
  rw [sameM_self] at HSAA
  rw [sameM_symm b.m a.m] at HSBA
  clear hx ha hb
  have HPUT := Lib.hid (fun W => put_nil x.ml W)
  simp only [acA, mlA] at *
  generalize sameM a.m b.m = sm at *
  have hfb : fewB [x] 1 = decide (x.ml.m.bs.length ≤ 60) := by simp [fewB]
  by_cases qx : x.ml.m.bs.length ≤ 60
  case neg =>
    have HQ := Lib.hid (show fewB [x] 1 = false by rw [hfb]; exact decide_eq_false qx)
    clear hfb qx
    go_enter Try.func6, Try.ntmps6
    go_wp2_with fail
    refine (HFW.out _ (w.heap.size + 1 + 1 + 1) (by simp) N0.out).mono ?_
    rintro e w1 ⟨rfl, rfl⟩
    rw [HQ.out]
    have N1 := Lib.hid (N0.out.next (balloc (Below.refl _ _) (.cells #[.int .i64 x.wh, .int .i64 x.pk, .int .i64 x.ml.m.link, .int .i64 x.ml.m.frm, .int .i64 x.ml.m.dst, .int .u32 x.ml.m.src, .slice x.ml.A x.ml.m.bs.length x.ml.c, .int .i64 x.ml.m.sent, .int .i64 x.nw, .int .i64 x.dl] 45)))
    go_wp2_with fail
    refine (works19_any _).mono ?_
    rintro e wk ⟨rfl, bk⟩
    go_wp2_with fail
    go_ret
    exact ⟨rfl, bnext N1.out.2.2.2 bk⟩
  have HQ := Lib.hid (show fewB [x] 1 = true by rw [hfb]; exact decide_eq_true qx)
  clear hfb
  by_cases qa : a.m.bs.length ≤ 60
  case neg =>
    have d1 : decide (60 < a.m.bs.length) = true := decide_eq_true (by omega)
    have d2 : decide ((60 : Int) < a.m.bs.length) = true := decide_eq_true (by omega)
    go_enter Try.func6, Try.ntmps6
    go_wp2_with fail
    refine (HFW.out _ (w.heap.size + 1 + 1 + 1) (by simp) N0.out).mono ?_
    rintro e w1 ⟨rfl, rfl⟩
    rw [HQ.out]
    have N1 := Lib.hid (N0.out.next (balloc (Below.refl _ _) (.cells #[.int .i64 x.wh, .int .i64 x.pk, .int .i64 x.ml.m.link, .int .i64 x.ml.m.frm, .int .i64 x.ml.m.dst, .int .u32 x.ml.m.src, .slice x.ml.A x.ml.m.bs.length x.ml.c, .int .i64 x.ml.m.sent, .int .i64 x.nw, .int .i64 x.dl] 45)))
    obtain ⟨ka0, ka1, ka2, ka3, ka4, ka5⟩ := (show Blk _ _ _ #[_, _, _, _, _, _] from N1.out.2.1).six
    go_wp2_with fail
    refine (works19_any _).mono ?_
    rintro e wk ⟨rfl, bk⟩
    go_wp2_with fail
    go_ret
    exact ⟨rfl, bnext N1.out.2.2.2 bk⟩
  have da1 : decide (60 < a.m.bs.length) = false := decide_eq_false (by omega)
  have da2 : decide ((60 : Int) < a.m.bs.length) = false := decide_eq_false (by omega)
  by_cases qb : b.m.bs.length ≤ 60
  case neg =>
    have d1 : decide (60 < b.m.bs.length) = true := decide_eq_true (by omega)
    have d2 : decide ((60 : Int) < b.m.bs.length) = true := decide_eq_true (by omega)
    go_enter Try.func6, Try.ntmps6
    go_wp2_with fail
    refine (HFW.out _ (w.heap.size + 1 + 1 + 1) (by simp) N0.out).mono ?_
    rintro e w1 ⟨rfl, rfl⟩
    rw [HQ.out]
    have N1 := Lib.hid (N0.out.next (balloc (Below.refl _ _) (.cells #[.int .i64 x.wh, .int .i64 x.pk, .int .i64 x.ml.m.link, .int .i64 x.ml.m.frm, .int .i64 x.ml.m.dst, .int .u32 x.ml.m.src, .slice x.ml.A x.ml.m.bs.length x.ml.c, .int .i64 x.ml.m.sent, .int .i64 x.nw, .int .i64 x.dl] 45)))
    obtain ⟨ka0, ka1, ka2, ka3, ka4, ka5⟩ := (show Blk _ _ _ #[_, _, _, _, _, _] from N1.out.2.1).six
    obtain ⟨kb0, kb1, kb2, kb3, kb4, kb5⟩ := (show Blk _ _ _ #[_, _, _, _, _, _] from N1.out.2.2.1).six
    go_wp2_with fail
    refine (works19_any _).mono ?_
    rintro e wk ⟨rfl, bk⟩
    go_wp2_with fail
    go_ret
    exact ⟨rfl, bnext N1.out.2.2.2 bk⟩
  have db1 : decide (60 < b.m.bs.length) = false := decide_eq_false (by omega)
  have db2 : decide ((60 : Int) < b.m.bs.length) = false := decide_eq_false (by omega)
  go_enter Try.func6, Try.ntmps6
  go_wp2_with fail
  refine (HFW.out _ (w.heap.size + 1 + 1 + 1) (by simp) N0.out).mono ?_
  rintro e w1 ⟨rfl, rfl⟩
  rw [HQ.out]
  have N1 := Lib.hid (N0.out.next (balloc (Below.refl _ _) (.cells #[.int .i64 x.wh, .int .i64 x.pk, .int .i64 x.ml.m.link, .int .i64 x.ml.m.frm, .int .i64 x.ml.m.dst, .int .u32 x.ml.m.src, .slice x.ml.A x.ml.m.bs.length x.ml.c, .int .i64 x.ml.m.sent, .int .i64 x.nw, .int .i64 x.dl] 45)))
  obtain ⟨kx0, kx1, kx2, kx3, kx4, kx5, kx6, kx7, kx8, kx9⟩ := (show Blk _ _ _ #[_, _, _, _, _, _, _, _, _, _] from N1.out.1).ten
  obtain ⟨ka0, ka1, ka2, ka3, ka4, ka5⟩ := (show Blk _ _ _ #[_, _, _, _, _, _] from N1.out.2.1).six
  obtain ⟨kb0, kb1, kb2, kb3, kb4, kb5⟩ := (show Blk _ _ _ #[_, _, _, _, _, _] from N1.out.2.2.1).six
  go_wp2_with fail
  refine (peek_nil x.pk _).mono ?_
  rintro e w2 ⟨rfl, b2⟩
  clear kx0 kx1 kx2 kx3 kx4 kx5 kx6 kx7 kx8 kx9 ka0 ka1 ka2 ka3 ka4 ka5 kb0 kb1 kb2 kb3 kb4 kb5
  have N2 := Lib.hid (N1.out.next (balloc b2 (.cells #[.int .i64 0, .int .i64 0, .int .i64 0, .int .u32 0, .slice none 0 0, .int .i64 0] 33)))
  obtain ⟨kx0, kx1, kx2, kx3, kx4, kx5, kx6, kx7, kx8, kx9⟩ := (show Blk _ _ _ #[_, _, _, _, _, _, _, _, _, _] from N2.out.1).ten
  obtain ⟨ka0, ka1, ka2, ka3, ka4, ka5⟩ := (show Blk _ _ _ #[_, _, _, _, _, _] from N2.out.2.1).six
  obtain ⟨kb0, kb1, kb2, kb3, kb4, kb5⟩ := (show Blk _ _ _ #[_, _, _, _, _, _] from N2.out.2.2.1).six
  go_wp2_with fail
  refine (take_nil x.pk _).mono ?_
  rintro e w3 ⟨rfl, b3⟩
  clear kx0 kx1 kx2 kx3 kx4 kx5 kx6 kx7 kx8 kx9 ka0 ka1 ka2 ka3 ka4 ka5 kb0 kb1 kb2 kb3 kb4 kb5
  have N3 := Lib.hid (N2.out.next (balloc b3 (.cells #[.int .i64 0, .int .i64 0, .int .i64 0, .int .u32 0, .slice none 0 0, .int .i64 0] 33)))
  obtain ⟨kx0, kx1, kx2, kx3, kx4, kx5, kx6, kx7, kx8, kx9⟩ := (show Blk _ _ _ #[_, _, _, _, _, _, _, _, _, _] from N3.out.1).ten
  obtain ⟨ka0, ka1, ka2, ka3, ka4, ka5⟩ := (show Blk _ _ _ #[_, _, _, _, _, _] from N3.out.2.1).six
  obtain ⟨kb0, kb1, kb2, kb3, kb4, kb5⟩ := (show Blk _ _ _ #[_, _, _, _, _, _] from N3.out.2.2.1).six
  go_wp2_with fail
  refine (late_nil x.nw x.dl _).mono ?_
  rintro e w4 ⟨rfl, b4⟩
  clear kx0 kx1 kx2 kx3 kx4 kx5 kx6 kx7 kx8 kx9 ka0 ka1 ka2 ka3 ka4 ka5 kb0 kb1 kb2 kb3 kb4 kb5
  have N4 := Lib.hid (N3.out.next (balloc b4 (.cells #[.int .i64 0, .int .i64 0, .int .i64 0, .int .u32 0, .slice none 0 0, .int .i64 0] 33)))
  obtain ⟨kx0, kx1, kx2, kx3, kx4, kx5, kx6, kx7, kx8, kx9⟩ := (show Blk _ _ _ #[_, _, _, _, _, _, _, _, _, _] from N4.out.1).ten
  obtain ⟨ka0, ka1, ka2, ka3, ka4, ka5⟩ := (show Blk _ _ _ #[_, _, _, _, _, _] from N4.out.2.1).six
  obtain ⟨kb0, kb1, kb2, kb3, kb4, kb5⟩ := (show Blk _ _ _ #[_, _, _, _, _, _] from N4.out.2.2.1).six
  go_wp2_with fail
  refine (HAB.out _ N4.out).mono ?_
  rintro e w5 ⟨rfl, b5⟩
  clear kx0 kx1 kx2 kx3 kx4 kx5 kx6 kx7 kx8 kx9 ka0 ka1 ka2 ka3 ka4 ka5 kb0 kb1 kb2 kb3 kb4 kb5
  have N5 := Lib.hid (N4.out.next b5)
  obtain ⟨kx0, kx1, kx2, kx3, kx4, kx5, kx6, kx7, kx8, kx9⟩ := (show Blk _ _ _ #[_, _, _, _, _, _, _, _, _, _] from N5.out.1).ten
  obtain ⟨ka0, ka1, ka2, ka3, ka4, ka5⟩ := (show Blk _ _ _ #[_, _, _, _, _, _] from N5.out.2.1).six
  obtain ⟨kb0, kb1, kb2, kb3, kb4, kb5⟩ := (show Blk _ _ _ #[_, _, _, _, _, _] from N5.out.2.2.1).six
  go_wp2_with fail
  refine (HPUT.out _).mono ?_
  rintro e w6 ⟨rfl, b6⟩
  clear kx0 kx1 kx2 kx3 kx4 kx5 kx6 kx7 kx8 kx9 ka0 ka1 ka2 ka3 ka4 ka5 kb0 kb1 kb2 kb3 kb4 kb5
  have N6 := Lib.hid (N5.out.next b6)
  obtain ⟨kx0, kx1, kx2, kx3, kx4, kx5, kx6, kx7, kx8, kx9⟩ := (show Blk _ _ _ #[_, _, _, _, _, _, _, _, _, _] from N6.out.1).ten
  obtain ⟨ka0, ka1, ka2, ka3, ka4, ka5⟩ := (show Blk _ _ _ #[_, _, _, _, _, _] from N6.out.2.1).six
  obtain ⟨kb0, kb1, kb2, kb3, kb4, kb5⟩ := (show Blk _ _ _ #[_, _, _, _, _, _] from N6.out.2.2.1).six
  go_wp2_with fail
  refine (num19_any _ _).mono ?_
  rintro e wq ⟨rfl, rfl⟩
  go_wp2_with fail
  refine (num19_any _ _).mono ?_
  rintro e wq ⟨rfl, rfl⟩
  go_wp2_with fail
  refine (num19_any _ _).mono ?_
  rintro e wq ⟨rfl, rfl⟩
  go_wp2_with fail
  refine (num19_any _ _).mono ?_
  rintro e wq ⟨rfl, rfl⟩
  go_wp2_with fail
  refine (count_nil x.nw x.dl _).mono ?_
  rintro e wq ⟨rfl, rfl⟩
  go_wp2_with fail
  refine (len_nil _).mono ?_
  rintro e wq ⟨rfl, rfl⟩
  go_wp2_with fail
  refine (room_nil _).mono ?_
  rintro e wq ⟨rfl, rfl⟩
  go_wp2_with fail
  refine (lost_nil _).mono ?_
  rintro e wq ⟨rfl, rfl⟩
  go_wp2_with fail
  refine (all_nil _).mono ?_
  rintro e wl ⟨lb, rfl, hal, bl⟩
  have hal2 : IsAll wl (· < wl.heap.size) [] lb := by
    obtain ⟨Bl, A', c', q0, q1, q2, q3, q4, q5, q6, q7⟩ := hal
    exact ⟨Bl, A', c', q0, q1, q1.lt, q3, q4, fun h => absurd h (by simp [mlC]), q6, by simp⟩
  have HRW := Lib.hid (rows_any [] [] rfl 1 lb 0 0 rfl none wl hal2 Rd.nil (by simp) (by omega) (by omega))
  clear kx0 kx1 kx2 kx3 kx4 kx5 kx6 kx7 kx8 kx9 ka0 ka1 ka2 ka3 ka4 ka5 kb0 kb1 kb2 kb3 kb4 kb5
  have N7 := Lib.hid (N6.out.next bl)
  clear hal hal2
  go_wp2_with fail
  refine HRW.out.mono ?_
  rintro e wr ⟨rfl, br⟩
  have N8 := Lib.hid (N7.out.next br)
  obtain ⟨kx0, kx1, kx2, kx3, kx4, kx5, kx6, kx7, kx8, kx9⟩ := (show Blk _ _ _ #[_, _, _, _, _, _, _, _, _, _] from N8.out.1).ten
  obtain ⟨ka0, ka1, ka2, ka3, ka4, ka5⟩ := (show Blk _ _ _ #[_, _, _, _, _, _] from N8.out.2.1).six
  obtain ⟨kb0, kb1, kb2, kb3, kb4, kb5⟩ := (show Blk _ _ _ #[_, _, _, _, _, _] from N8.out.2.2.1).six
  go_wp2_with fail
  refine (copy_nil _).mono ?_
  rintro e wq ⟨rfl, rfl⟩
  go_wp2_with fail
  refine (same_nil _).mono ?_
  rintro e wq ⟨rfl, rfl⟩
  go_wp2_with fail
  refine (HSAB.out _ N8.out).mono ?_
  rintro e w9 ⟨rfl, b9⟩
  clear kx0 kx1 kx2 kx3 kx4 kx5 kx6 kx7 kx8 kx9 ka0 ka1 ka2 ka3 ka4 ka5 kb0 kb1 kb2 kb3 kb4 kb5
  have N9 := Lib.hid (N8.out.next b9)
  obtain ⟨kx0, kx1, kx2, kx3, kx4, kx5, kx6, kx7, kx8, kx9⟩ := (show Blk _ _ _ #[_, _, _, _, _, _, _, _, _, _] from N9.out.1).ten
  obtain ⟨ka0, ka1, ka2, ka3, ka4, ka5⟩ := (show Blk _ _ _ #[_, _, _, _, _, _] from N9.out.2.1).six
  obtain ⟨kb0, kb1, kb2, kb3, kb4, kb5⟩ := (show Blk _ _ _ #[_, _, _, _, _, _] from N9.out.2.2.1).six
  go_wp2_with fail
  refine (HSBA.out _ N9.out).mono ?_
  rintro e w10 ⟨rfl, b10⟩
  clear kx0 kx1 kx2 kx3 kx4 kx5 kx6 kx7 kx8 kx9 ka0 ka1 ka2 ka3 ka4 ka5 kb0 kb1 kb2 kb3 kb4 kb5
  have N10 := Lib.hid (N9.out.next b10)
  obtain ⟨kx0, kx1, kx2, kx3, kx4, kx5, kx6, kx7, kx8, kx9⟩ := (show Blk _ _ _ #[_, _, _, _, _, _, _, _, _, _] from N10.out.1).ten
  obtain ⟨ka0, ka1, ka2, ka3, ka4, ka5⟩ := (show Blk _ _ _ #[_, _, _, _, _, _] from N10.out.2.1).six
  obtain ⟨kb0, kb1, kb2, kb3, kb4, kb5⟩ := (show Blk _ _ _ #[_, _, _, _, _, _] from N10.out.2.2.1).six
  go_wp2_with fail
  refine (HSAA.out _ N10.out).mono ?_
  rintro e w11 ⟨rfl, b11⟩
  clear kx0 kx1 kx2 kx3 kx4 kx5 kx6 kx7 kx8 kx9 ka0 ka1 ka2 ka3 ka4 ka5 kb0 kb1 kb2 kb3 kb4 kb5
  have N11 := Lib.hid (N10.out.next b11)
  obtain ⟨kx0, kx1, kx2, kx3, kx4, kx5, kx6, kx7, kx8, kx9⟩ := (show Blk _ _ _ #[_, _, _, _, _, _, _, _, _, _] from N11.out.1).ten
  obtain ⟨ka0, ka1, ka2, ka3, ka4, ka5⟩ := (show Blk _ _ _ #[_, _, _, _, _, _] from N11.out.2.1).six
  obtain ⟨kb0, kb1, kb2, kb3, kb4, kb5⟩ := (show Blk _ _ _ #[_, _, _, _, _, _] from N11.out.2.2.1).six
  clear kx0 kx1 kx2 kx3 kx4 kx5 kx6 kx7 kx8 kx9 ka0 ka1 ka2 ka3 ka4 ka5 kb0 kb1 kb2 kb3 kb4 kb5
  go_wp2_with fail
  refine (works19_any _).mono ?_
  rintro e wk ⟨rfl, bk⟩
  go_wp2_with fail
  go_ret
  exact ⟨rfl, bnext N11.out.2.2.2 bk⟩
end Go.Proofs.Ytgdkobknjgbdbaa
