/- flight: mails; live, place, mayBe, late, own, first. -/
import Derived.Test.YtgdkobknjgbdbaaRowX
import Derived.Test.YtgdkobknjgbdbaaClone
namespace Go.Proofs.Ytgdkobknjgbdbaa
set_option linter.unusedVariables false
set_option linter.unusedSimpArgs false
open Go.RowKit
set_option maxRecDepth 100000

/-- a mail -/
structure Mm where
  link : Int
  frm : Int
  dst : Int
  src : Nat
  bs : List UInt8
  sent : Int
/-- a mail, and where its bytes lie -/
structure Ml where
  m : Mm
  A : Option Addr
  c : Nat
def mlA (r : Ml) : Array Value := #[.int .i64 r.m.link, .int .i64 r.m.frm, .int .i64 r.m.dst, .int .u32 r.m.src, .slice r.A r.m.bs.length r.c, .int .i64 r.m.sent]
def mlL (r : Ml) : List Value := [.int .i64 r.m.link, .int .i64 r.m.frm, .int .i64 r.m.dst, .int .u32 r.m.src, .slice r.A r.m.bs.length r.c, .int .i64 r.m.sent]
def mlC (l : List Ml) : List Value := l.flatMap mlL
theorem mlL_len (r : Ml) : (mlL r).length = 6 := rfl
theorem mlL_one (r : Ml) : ∀ u ∈ mlL r, u.oneCell' = true := by
  intro u hu
  simp only [mlL, List.mem_cons, List.not_mem_nil, or_false] at hu
  rcases hu with rfl | rfl | rfl | rfl | rfl | rfl <;> rfl
theorem mlC_len (l : List Ml) : (mlC l).length = l.length * 6 := rows_len mlL_len l
theorem mlC_one (l : List Ml) : ∀ u ∈ mlC l, u.oneCell' = true := rows_one mlL_one l
theorem mlC_append (l m : List Ml) : mlC (l ++ m) = mlC l ++ mlC m := by simp [mlC]
theorem ml_at {w : World} {B : Nat} {A : Option Addr} {l : List Ml} (h : Rd w B A (mlC l)) {i : Nat} {x : Ml} (hi : l[i]? = some x) :
    ∃ b off, A = some ⟨b, off, none⟩ ∧ b < B ∧ w.cell? ⟨b, off + i * 6, none⟩ = some (.int .i64 x.m.link) ∧ w.cell? ⟨b, off + i * 6 + 1, none⟩ = some (.int .i64 x.m.frm) ∧ w.cell? ⟨b, off + i * 6 + 2, none⟩ = some (.int .i64 x.m.dst) ∧
      w.cell? ⟨b, off + i * 6 + 3, none⟩ = some (.int .u32 x.m.src) ∧ w.cell? ⟨b, off + i * 6 + 4, none⟩ = some (.slice x.A x.m.bs.length x.c) ∧ w.cell? ⟨b, off + i * 6 + 5, none⟩ = some (.int .i64 x.m.sent) := by
  obtain ⟨b, off, e, hb, hc⟩ := rows_at mlL_len (by omega) h hi
  simp only [Nat.add_assoc]
  exact ⟨b, off, e, hb, hc 0 _ rfl, hc 1 _ rfl, hc 2 _ rfl, hc 3 _ rfl, hc 4 _ rfl, hc 5 _ rfl⟩

theorem mail_info : (Try.prog.info? 33).map (fun i => (i.zero, i.size, i.bytes)) = some (some (.agg #[.int .i64 0, .int .i64 0, .int .i64 0, .int .u32 0, .slice none 0 0, .int .i64 0]), 6, 64) := by kernel_rfl
theorem under_info : (Try.prog.info? 72).map (fun i => (i.zero, i.size, i.bytes)) = some (some (.agg #[.int .i64 0, .int .i64 0, .int .i64 0, .int .u32 0, .slice none 0 0, .int .i64 0]), 6, 64) := by kernel_rfl

/-- may a mail be? -/
def okB (lk fr ds st : Int) : Bool := decide (0 ≤ lk) && (decide (0 ≤ fr) && (decide (0 ≤ ds) && (decide (0 ≤ st) && decide (st ≤ 4611686018427387904))))
def okM (m : Mm) : Bool := okB m.link m.frm m.dst m.sent
/-- is a mail late? -/
def lateB (st now delay : Int) : Bool := decide (st ≤ now) && decide (delay ≤ now - st)
def lateM (now delay : Int) (m : Mm) : Bool := lateB m.sent now delay
/-- which one a pick picks -/
def pickF (pick : Int) (n : Nat) : Nat := (pick % n).toNat
theorem pickF_lt (pick : Int) (n : Nat) (h : 0 < n) : pickF pick n < n := by
  unfold pickF
  have := Int.emod_lt_of_pos pick (show (0 : Int) < n by omega)
  have := Int.emod_nonneg pick (show (n : Int) ≠ 0 by omega)
  omega

theorem live_nil (w : World) : Calls Try.prog 30 #[.pointer none] w fun e w' => e = .returned (.bool false) ∧ w = w' := by
  go_enter Try.func30, Try.ntmps30
  go_wp2
  go_ret
  exact ⟨rfl, rfl⟩
theorem live_some (g room : Nat) (w : World) (h : w.cell? ⟨g, 1, none⟩ = some (.int .i64 room)) (hr : 0 < room) : Calls Try.prog 30 #[.pointer (some ⟨g, 0, none⟩)] w fun e w' => e = .returned (.bool true) ∧ w = w' := by
  have h1 : decide ((0 : Int) < room) = true := decide_eq_true (by omega)
  have h2 : decide (0 < room) = true := decide_eq_true hr
  go_enter Try.func30, Try.ntmps30
  go_wp2
  go_ret
  exact ⟨rfl, rfl⟩
theorem place_any (pick : Int) (n : Nat) (w : World) (h : 0 < n) (hn : n ≤ 1000000) :
    Calls Try.prog 37 #[.int .i64 pick, .int .i64 n] w fun e w' => e = .returned (.int .i64 (pickF pick n : Nat)) ∧ w = w' := by
  have h0 : (0 : Int) < n := by omega
  have h1 : pick.tmod n < n := Int.tmod_lt_of_pos _ h0
  have h2 : -(n : Int) < pick.tmod n := by
    have := Int.tmod_lt_of_pos (-pick) h0
    rw [Int.neg_tmod] at this
    omega
  have h3 : pick.tmod n % n = (pickF pick n : Nat) := by
    have e2 := Int.emod_nonneg pick (show (n : Int) ≠ 0 by omega)
    have e4 : pick.tmod n % n = pick % n := by rw [Int.tmod_def, Int.sub_mul_emod_self_left]
    unfold pickF
    rw [Int.toNat_of_nonneg e2, e4]
  have H3 := Lib.hid h3
  clear h3
  go_enter Try.func37, Try.ntmps37
  go_wp2
  go_ret
  exact ⟨by rw [← H3.out]; show Ending.returned (.int .i64 ((pick.tmod n + n) % n)) = _; rw [Int.add_emod_right], rfl⟩

theorem ulate_any (lk fr ds : Int) (sr : Nat) (A : Option Addr) (n c : Nat) (st now delay : Int) (w : World) (hs : 0 ≤ st) (hn : now ≤ 9223372036854775807) :
    Calls Try.prog 33 #[.agg #[.int .i64 lk, .int .i64 fr, .int .i64 ds, .int .u32 sr, .slice A n c, .int .i64 st], .int .i64 now, .int .i64 delay] w fun e w' => e = .returned (.bool (lateB st now delay)) ∧ Below w.heap.size w w' := by
  by_cases h1 : st ≤ now
  · have hb : lateB st now delay = decide (delay ≤ now - st) := by simp [lateB, h1]
    rw [hb]
    clear hb
    go_enter Try.func33, Try.ntmps33
    go_wp2
    go_ret
    exact ⟨rfl, balloc (Below.refl _ _) _⟩
  · have hb : lateB st now delay = false := by simp [lateB, h1]
    rw [hb]
    clear hb
    go_enter Try.func33, Try.ntmps33
    go_wp2
    go_ret
    exact ⟨rfl, balloc (Below.refl _ _) _⟩

theorem maybe_any (lk fr ds : Int) (sr : Nat) (A : Option Addr) (n c : Nat) (st : Int) (w : World) :
    Calls Try.prog 36 #[.agg #[.int .i64 lk, .int .i64 fr, .int .i64 ds, .int .u32 sr, .slice A n c, .int .i64 st]] w fun e w' => e = .returned (.bool (okB lk fr ds st)) ∧ Below w.heap.size w w' := by
  by_cases h1 : 0 ≤ lk
  case neg =>
    have hb : okB lk fr ds st = false := by simp [okB, h1]
    rw [hb]; clear hb
    go_enter Try.func36, Try.ntmps36
    go_wp2; go_ret; exact ⟨rfl, balloc (Below.refl _ _) _⟩
  by_cases h2 : 0 ≤ fr
  case neg =>
    have hb : okB lk fr ds st = false := by simp [okB, h2]
    rw [hb]; clear hb
    go_enter Try.func36, Try.ntmps36
    go_wp2; go_ret; exact ⟨rfl, balloc (Below.refl _ _) _⟩
  by_cases h3 : 0 ≤ ds
  case neg =>
    have hb : okB lk fr ds st = false := by simp [okB, h3]
    rw [hb]; clear hb
    go_enter Try.func36, Try.ntmps36
    go_wp2; go_ret; exact ⟨rfl, balloc (Below.refl _ _) _⟩
  by_cases h4 : 0 ≤ st
  case neg =>
    have hb : okB lk fr ds st = false := by simp [okB, h4]
    rw [hb]; clear hb
    go_enter Try.func36, Try.ntmps36
    go_wp2; go_ret; exact ⟨rfl, balloc (Below.refl _ _) _⟩
  have hb : okB lk fr ds st = decide (st ≤ 4611686018427387904) := by simp [okB, h1, h2, h3, h4]
  rw [hb]; clear hb
  go_enter Try.func36, Try.ntmps36
  go_wp2; go_ret; exact ⟨rfl, balloc (Below.refl _ _) _⟩

/-- the function that asks whether a mail is late -/
theorem late1_any (lk fr ds : Int) (sr : Nat) (A : Option Addr) (n c : Nat) (st now delay : Int) (bn bd : Nat) (w : World) (hs : 0 ≤ st) (hn : now ≤ 9223372036854775807) (h1 : w.cell? ⟨bn, 0, none⟩ = some (.int .i64 now)) (h2 : w.cell? ⟨bd, 0, none⟩ = some (.int .i64 delay)) :
    Calls Try.prog 32 #[.agg #[.int .i64 lk, .int .i64 fr, .int .i64 ds, .int .u32 sr, .slice A n c, .int .i64 st], .pointer (some ⟨bn, 0, none⟩), .pointer (some ⟨bd, 0, none⟩)] w fun e w' => e = .returned (.bool (lateB st now delay)) ∧ Below w.heap.size w w' := by
  have l1 := cell_lt h1
  have l2 := cell_lt h2
  go_enter Try.func32, Try.ntmps32
  go_wp2_with fail
  refine (ulate_any lk fr ds sr A n c st now delay _ hs hn).mono ?_
  rintro e w1 ⟨rfl, hb⟩
  go_wp2_with fail
  go_ret
  exact ⟨rfl, bnext (balloc (Below.refl _ _) _) hb⟩

set_option maxHeartbeats 1000000 in
theorem own_any (lk fr ds : Int) (sr : Nat) (A : Option Addr) (n c B : Nat) (st : Int) (l : List UInt8) (hn : l.length = n) (w : World) (hr : Rd w B A (l.map b8)) (hB : B ≤ w.heap.size) (hl : n ≤ 1048576) :
    Calls Try.prog 34 #[.agg #[.int .i64 lk, .int .i64 fr, .int .i64 ds, .int .u32 sr, .slice A n c, .int .i64 st]] w fun e w' => ∃ A1 c1, e = .returned (.agg #[.int .i64 lk, .int .i64 fr, .int .i64 ds, .int .u32 sr, .slice A1 n c1, .int .i64 st]) ∧ n ≤ c1 ∧ c1 ≤ maxLen ∧ Rd w' w'.heap.size A1 (l.map b8) ∧ Below w.heap.size w w' ∧ (∀ a, A1 = some a → w.heap.size ≤ a.block) := by
  have B0 : Below w.heap.size w ((w.alloc (.cells #[.int .i64 lk, .int .i64 fr, .int .i64 ds, .int .u32 sr, .slice A n c, .int .i64 st] 33)).alloc (.cells #[.int .i64 0, .int .i64 0, .int .i64 0, .int .u32 0, .slice none 0 0, .int .i64 0] 33)) := balloc (balloc (Below.refl _ _) _) _
  have x0 := (Blk.new w 33 #[.int .i64 lk, .int .i64 fr, .int .i64 ds, .int .u32 sr, .slice A n c, .int .i64 st]).alloc (.cells #[.int .i64 0, .int .i64 0, .int .i64 0, .int .u32 0, .slice none 0 0, .int .i64 0] 33)
  have x1 := Blk.new (w.alloc (.cells #[.int .i64 lk, .int .i64 fr, .int .i64 ds, .int .u32 sr, .slice A n c, .int .i64 st] 33)) 33 #[.int .i64 0, .int .i64 0, .int .i64 0, .int .u32 0, .slice none 0 0, .int .i64 0]
  rw [World.size_alloc] at x1
  have HC := Lib.hid (clone_any l n hn A c B ((w.alloc (.cells #[.int .i64 lk, .int .i64 fr, .int .i64 ds, .int .u32 sr, .slice A n c, .int .i64 st] 33)).alloc (.cells #[.int .i64 0, .int .i64 0, .int .i64 0, .int .u32 0, .slice none 0 0, .int .i64 0] 33)) (hr.below (B0.mono hB)) (by omega) (by simp; omega))
  have HB0 := Lib.hid B0
  have X := Lib.hid (And.intro x0 x1)
  have HN := Lib.hid hn
  clear hr B0 x0 x1 hn
  go_enter Try.func34, Try.ntmps34
  go_wp2_with fail
  refine HC.out.mono ?_
  rintro e w1 ⟨A1, c1, rfl, h1, h2, h3, hb, hav⟩
  simp only [World.size_alloc] at hav
  rw [HN.out] at h1 ⊢
  have y0 := X.out.1.below hb X.out.1.lt
  have y1 := X.out.2.below hb X.out.2.lt
  have HA0 := Lib.hid (show ∀ a, A1 = some a → w.heap.size ≠ a.block from fun a ha => by have := hav a ha; omega)
  have HA1 := Lib.hid (show ∀ a, A1 = some a → w.heap.size + 1 ≠ a.block from fun a ha => by have := hav a ha; omega)
  have HAV := Lib.hid (show ∀ a, A1 = some a → w.heap.size ≤ a.block from fun a ha => by have := hav a ha; omega)
  have BB := bnext HB0.out hb
  have HR := Lib.hid h3
  clear hav h3 hb
  have ce0 := (y0).cell 0
  have ce1 := (y0).cell 1
  have ce2 := (y0).cell 2
  have ce3 := (y0).cell 3
  have ce4 := (y0).cell 4
  have ce5 := (y0).cell 5
  simp only [List.getElem?_toArray, List.getElem?_cons_zero, List.getElem?_cons_succ] at ce0 ce1 ce2 ce3 ce4 ce5
  have mm0 := (y1).cell 0
  have mm1 := (y1).cell 1
  have mm2 := (y1).cell 2
  have mm3 := (y1).cell 3
  have mm4 := (y1).cell 4
  have mm5 := (y1).cell 5
  simp only [List.getElem?_toArray, List.getElem?_cons_zero, List.getElem?_cons_succ] at mm0 mm1 mm2 mm3 mm4 mm5
  have gg0 := y1.frozen 0
  have gg1 := y1.frozen 1
  have gg2 := y1.frozen 2
  have gg3 := y1.frozen 3
  have gg4 := y1.frozen 4
  have gg5 := y1.frozen 5
  have k4 := y0.frozen 4
  have u0 := y0.set 4 (.slice A1 n c1)
  simp only [List.setIfInBounds_toArray, List.set_cons_zero, List.set_cons_succ] at u0
  have u1 := y1.far (p := ⟨w.heap.size, 4, none⟩) (by show ¬ w.heap.size + 1 = w.heap.size; omega) (.slice A1 n c1)
  have d0 := (u0).cell 0
  have d1 := (u0).cell 1
  have d2 := (u0).cell 2
  have d3 := (u0).cell 3
  have d4 := (u0).cell 4
  have d5 := (u0).cell 5
  simp only [List.getElem?_toArray, List.getElem?_cons_zero, List.getElem?_cons_succ] at d0 d1 d2 d3 d4 d5
  have m0 := (u1).cell 0
  have m1 := (u1).cell 1
  have m2 := (u1).cell 2
  have m3 := (u1).cell 3
  have m4 := (u1).cell 4
  have m5 := (u1).cell 5
  simp only [List.getElem?_toArray, List.getElem?_cons_zero, List.getElem?_cons_succ] at m0 m1 m2 m3 m4 m5
  have f0 := u1.frozen 0
  have f1 := u1.frozen 1
  have f2 := u1.frozen 2
  have f3 := u1.frozen 3
  have f4 := u1.frozen 4
  have f5 := u1.frozen 5
  clear y0 y1 u0
  go_wp2_with fail
  refine bodyPost_ret (v := .agg #[.int .i64 lk, .int .i64 fr, .int .i64 ds, .int .u32 sr, .slice A1 n c1, .int .i64 st]) (by simp [results, Try.results34, go_sem, mm0, mm1, mm2, mm3, mm4, mm5, ce0, ce1, ce2, ce3, ce4, ce5]) rfl ?_
  refine ⟨A1, c1, rfl, h1, h2, ?_, by go_grown, HAV.out⟩
  simp only [World.size_setCell]
  exact ((((((HR.out.off HA0.out _).off HA1.out _).off HA1.out _).off HA1.out _).off HA1.out _).off HA1.out _).off HA1.out _
end Go.Proofs.Ytgdkobknjgbdbaa
