/- entry.Bytes. -/
import Derived.Test.YtpadlillbofpnaaDoorEnt
import Derived.Test.YtpadlillbofpnaaDoorRdr
namespace Go.Proofs.YtpadlillbofpnaaDoor
set_option linter.unusedVariables false
set_option linter.unusedSimpArgs false
open Go.RowKit
set_option maxRecDepth 100000

theorem keep_alloc {W : World} {p : Addr} {v : Value} {o : Obj} (h : W.cell? p = some v) : (W.alloc o).cell? p = some v := by rw [World.cell?_alloc_lt _ _ _ (cell_lt h)]; exact h
theorem keep_drew {W : World} {p : Addr} {v : Value} (h : W.cell? p = some v) : W.drew.cell? p = some v := h
theorem WidthsAt.alloc {w : World} (h : WidthsAt w) (o : Obj) : WidthsAt (w.alloc o) := h.below ((Below.refl _ _).alloc (Nat.le_refl _) o)
theorem WidthsAt.drew {w : World} (h : WidthsAt w) : WidthsAt w.drew := h

set_option maxHeartbeats 1000000 in
/-- octet.Put of a number that its width holds, to the block -/
theorem put_exact (n k : Nat) (w : World) (hw : WidthsAt w) (hk : isW k = true) (hn : n < 256 ^ k) :
    Calls Tryd.prog 50 #[.int .u32 n, .int .i64 k] w fun e w' => e = .returned (.tuple #[.slice (some ⟨w.heap.size, 0, none⟩) k k, .int .i64 0]) ∧ w' = putW w k n := by
  have hk1 := isW_cases hk
  rcases (by omega : k = 1 ∨ k = 2 ∨ k = 4) with rfl | rfl | rfl
  all_goals
    simp at hn
    have hn2 : n < 4294967296 := by omega
    go_enter Tryd.func50, Tryd.ntmps50
    go_wp2_with fail
    refine scope_fwd 0 rfl ?_
    go_wp2_with (first
      | (go_at_call 58; refine (isWidth_any _ _ hw).mono ?_; rintro e w' ⟨rfl, rfl⟩)
      | (go_at_call 67; refine (split_any n _ _ hn2 hk).mono ?_; rintro e w' ⟨rfl, rfl⟩))
    rw [jump_ret]
    go_ret2
    exact ⟨rfl, rfl⟩

theorem putc_exact (n k : Nat) (w : World) (hw : WidthsAt w) (hk : isW k = true) (hn : n < 256 ^ k) :
    Calls Tryd.prog 49 #[.int .u32 n, .int .i64 k] w fun e w' => e = .returned (.slice (some ⟨w.heap.size, 0, none⟩) k k) ∧ w' = putW w k n := by
  go_enter Tryd.func49, Tryd.ntmps49
  go_wp2_with (go_at_call 50; refine (put_exact n k _ hw hk hn).mono ?_; rintro e w' ⟨rfl, rfl⟩)
  go_ret
  exact ⟨rfl, rfl⟩
theorem putc2 (n : Nat) (w : World) (hw : WidthsAt w) (hn : n < 65536) :
    Calls Tryd.prog 49 #[.int .u32 n, .int .i64 2] w fun e w' => e = .returned (.slice (some ⟨w.heap.size, 0, none⟩) 2 2) ∧ w' = w.alloc (.cells ((bs 2 n).map b8).toArray 5) := putc_exact n 2 w hw rfl (by simpa using hn)
theorem putc4 (n : Nat) (w : World) (hw : WidthsAt w) (hn : n < 4294967296) :
    Calls Tryd.prog 49 #[.int .u32 n, .int .i64 4] w fun e w' => e = .returned (.slice (some ⟨w.heap.size, 0, none⟩) 4 4) ∧ w' = w.alloc (.cells ((bs 4 n).map b8).toArray 5) := putc_exact n 4 w hw rfl (by simpa using hn)

/-- a row of slices of bytes, each readable -/
structure Piece where
  A : Option Addr
  c : Nat
  l : List UInt8
def Piece.v (p : Piece) : Value := .slice p.A p.l.length p.c

set_option maxHeartbeats 1000000 in
theorem joined_any (ps : List Piece) (A : Option Addr) (c : Nat) (w : World) (hr : Rd w w.heap.size A (ps.map Piece.v)) (hp : ∀ p ∈ ps, Rd w w.heap.size p.A (p.l.map b8)) (hl : ps.length ≤ 1000) (hb : ∀ p ∈ ps, p.l.length ≤ 1000) :
    Calls Tryd.prog 51 #[.slice A ps.length c] w (GivesS (ps.flatMap Piece.l) w) := by
  obtain ⟨i0, hi0, hz0, hz1, hz2⟩ := info_parts u8_info
  have HP := Lib.hid hp
  have HB := Lib.hid hb
  clear hp hb
  have hlen : ∀ k, ((ps.take k).flatMap Piece.l).length ≤ k * 1000 := by
    intro k
    induction k with
    | zero => simp
    | succ k ih =>
      rcases Nat.lt_or_ge k ps.length with h | h
      · rw [List.take_succ_eq_append_getElem h, List.flatMap_append]
        have := HB.out ps[k] (List.getElem_mem h)
        rw [List.length_append, List.flatMap_cons, List.flatMap_nil, List.append_nil]; omega
      · rw [List.take_of_length_le (by omega)] at ih ⊢; omega
  have HN := Lib.hid hlen
  clear hlen
  go_enter Tryd.func51, Tryd.ntmps51
  go_wp2
  go_loopw [3, 8] (fun v i wr => ∃ k : Nat, k ≤ ps.length ∧ i = .int .i64 k ∧ wr.ownsRow w.heap.size 5 1 v ((ps.take k).flatMap Piece.l).length (((ps.take k).flatMap Piece.l).map b8) ∧ Below w.heap.size w wr) (fun _ i _ => ps.length - (intOf i).toNat)
  case atStart => exact ⟨0, Nat.zero_le _, rfl, World.ownsRow_nil _ _ _ _, Below.refl _ _⟩
  case round =>
    obtain ⟨k, hk, rfl, hown, hb⟩ := hrel
    by_cases hlt : k < ps.length
    · obtain ⟨b, off, rfl, hbb, hcell⟩ := (hr.below hb).at (k := k) (by simpa using hlt)
      rw [List.getElem_map] at hcell
      have hpr := (HP.out ps[k] (List.getElem_mem hlt)).below hb
      have hpl := HB.out ps[k] (List.getElem_mem hlt)
      have HT := Lib.hid (show (ps.take (k + 1)).flatMap Piece.l = (ps.take k).flatMap Piece.l ++ ps[k].l by rw [List.take_succ_eq_append_getElem hlt, List.flatMap_append]; simp)
      have hnk := HN.out k
      generalize ps[k] = p at *
      generalize (ps.take k).flatMap Piece.l = l0 at *
      obtain ⟨pA, pc, pl⟩ := p
      unfold Piece.v at hcell
      simp only at hcell hpr hpl HT
      go_wp2_with (first
        | (at_builtin; refine wpList_append_rd rfl (.tmp 12) (.tmp 13) _ rfl w.heap.size 5 i0 _ 1 1 Tryd.underlying22 hi0 hz0 hz1 hz2 rfl (by omega) u3 _ _ rfl hown pl.length pc (pl.map b8) rfl (by simp) hpr (b8_one _) (by simp only [maxLen]; omega) (by omega) hb.size ?_
           intro v5 w5 ho5 hg5 ha5
           have hb5 : Below w.heap.size w w5 := hb.grown hg5 hb.size (fun k hk => (hown.lt k hk).1)
           rw [← List.map_append, ← HT.out] at ho5
           clear hg5 ha5 hown hb))
      go_roundw
      case rel => exact ⟨k + 1, by omega, by go_num, by rw [show ((ps.take (k + 1)).flatMap Piece.l).length = l0.length + pl.length by rw [HT.out]; simp]; exact ho5, hb5⟩
      case measure => simp [intOf]; omega
    · obtain rfl : k = ps.length := by omega
      rw [List.take_length] at hown
      go_wp2
      go_ret
      exact own_gives rfl hown hb

/-- the bytes of an entry -/
def entB (f t a m x k : Nat) : List UInt8 := bs 2 f ++ (bs 2 t ++ (bs 4 a ++ (bs 4 m ++ (bs 4 x ++ bs 4 k))))

theorem keepc {W W' : World} {p : Addr} {v : Value} (h : W.cell? p = some v) (hb : Below W.heap.size W W') : W'.cell? p = some v := (hb.cell (cell_lt h)).trans h
/-- six cells of an entry -/
abbrev Cells6 (g f t a m x k : Nat) (w' : World) : Prop := w'.cell? ⟨g, 0, none⟩ = some (.int .i64 f) ∧ w'.cell? ⟨g, 1, none⟩ = some (.int .i64 t) ∧ w'.cell? ⟨g, 2, none⟩ = some (.int .u32 a) ∧ w'.cell? ⟨g, 3, none⟩ = some (.int .u32 m) ∧ w'.cell? ⟨g, 4, none⟩ = some (.int .u32 x) ∧ w'.cell? ⟨g, 5, none⟩ = some (.int .u32 k)
theorem putB2 (n : Nat) (w : World) (hw : WidthsAt w) (hn : n < 65536) :
    Calls Tryd.prog 49 #[.int .u32 n, .int .i64 2] w fun e w' => ∃ A c, e = .returned (.slice A 2 c) ∧ Rd w' w'.heap.size A ((bs 2 n).map b8) ∧ Below w.heap.size w w' := by
  refine (putc2 n w hw hn).mono ?_
  rintro e w' ⟨rfl, rfl⟩
  exact ⟨_, _, rfl, (Rd.new w _ _).more (by simp), balloc (Below.refl _ _) _⟩
theorem putB4 (n : Nat) (w : World) (hw : WidthsAt w) (hn : n < 4294967296) :
    Calls Tryd.prog 49 #[.int .u32 n, .int .i64 4] w fun e w' => ∃ A c, e = .returned (.slice A 4 c) ∧ Rd w' w'.heap.size A ((bs 4 n).map b8) ∧ Below w.heap.size w w' := by
  refine (putc4 n w hw hn).mono ?_
  rintro e w' ⟨rfl, rfl⟩
  exact ⟨_, _, rfl, (Rd.new w _ _).more (by simp), balloc (Below.refl _ _) _⟩
theorem six_rd {W : World} {B C : Nat} {p1 p2 p3 p4 p5 p6 : Piece} (h1 : Rd W B p1.A (p1.l.map b8)) (h2 : Rd W B p2.A (p2.l.map b8)) (h3 : Rd W B p3.A (p3.l.map b8)) (h4 : Rd W B p4.A (p4.l.map b8)) (h5 : Rd W B p5.A (p5.l.map b8)) (h6 : Rd W B p6.A (p6.l.map b8)) (hBC : B ≤ C) :
    ∀ p ∈ [p1, p2, p3, p4, p5, p6], Rd W C p.A (p.l.map b8) := by
  intro p hp
  simp only [List.mem_cons, List.not_mem_nil, or_false] at hp
  rcases hp with rfl | rfl | rfl | rfl | rfl | rfl
  · exact h1.more hBC
  · exact h2.more hBC
  · exact h3.more hBC
  · exact h4.more hBC
  · exact h5.more hBC
  · exact h6.more hBC
theorem six_len (A1 A2 A3 A4 A5 A6 : Option Addr) (c1 c2 c3 c4 c5 c6 f t a m x k : Nat) :
    ∀ p ∈ ([⟨A1, c1, bs 2 f⟩, ⟨A2, c2, bs 2 t⟩, ⟨A3, c3, bs 4 a⟩, ⟨A4, c4, bs 4 m⟩, ⟨A5, c5, bs 4 x⟩, ⟨A6, c6, bs 4 k⟩] : List Piece), p.l.length ≤ 1000 := by
  intro p hp
  simp only [List.mem_cons, List.not_mem_nil, or_false] at hp
  rcases hp with rfl | rfl | rfl | rfl | rfl | rfl <;> simp [bs_length]
theorem Rd.next {w w' : World} {A : Option Addr} {xs : List Value} (h : Rd w w.heap.size A xs) (hb : Below w.heap.size w w') : Rd w' w'.heap.size A xs := (h.below hb).more hb.size
theorem size_le_alloc (w : World) (o : Obj) : w.heap.size ≤ (w.alloc o).heap.size := by simp
theorem Rd.newS (w : World) (t : TypeId) (cs : Array Value) (ys : List Value) (h : cs = ys.toArray) : Rd (w.alloc (.cells cs t)) (w.alloc (.cells cs t)).heap.size (some ⟨w.heap.size, 0, none⟩) ys := (Rd.newL w t cs ys h).more (by simp)
theorem six_cells (A1 A2 A3 A4 A5 A6 : Option Addr) (c1 c2 c3 c4 c5 c6 f t a m x k : Nat) :
    #[Value.slice A1 2 c1, .slice A2 2 c2, .slice A3 4 c3, .slice A4 4 c4, .slice A5 4 c5, .slice A6 4 c6] = (([⟨A1, c1, bs 2 f⟩, ⟨A2, c2, bs 2 t⟩, ⟨A3, c3, bs 4 a⟩, ⟨A4, c4, bs 4 m⟩, ⟨A5, c5, bs 4 x⟩, ⟨A6, c6, bs 4 k⟩] : List Piece).map Piece.v).toArray := by
  simp [Piece.v, bs_length]
set_option maxHeartbeats 2000000 in
theorem bytes_ok (f t a m x k : Nat) (w : World) (hw : WidthsAt w) (hf : f < 65536) (ht : t < 65536) (ha : a < 4294967296) (hm : m < 4294967296) (hx : x < 4294967296) (hk : k < 4294967296) :
    Calls Tryd.prog 32 #[.agg #[.int .i64 f, .int .i64 t, .int .u32 a, .int .u32 m, .int .u32 x, .int .u32 k]] w (GivesB (entB f t a m x k) 0 w) := by
  have HW := Lib.hid hw
  clear hw
  go_enter Tryd.func32, Tryd.ntmps32
  go_wp2_with fail
  have hB := Blk.new w 55 #[.int .i64 f, .int .i64 t, .int .u32 a, .int .u32 m, .int .u32 x, .int .u32 k]
  have e0 := hB.cell 0
  have e1 := hB.cell 1
  have e2 := hB.cell 2
  have e3 := hB.cell 3
  have e4 := hB.cell 4
  have e5 := hB.cell 5
  simp only [List.getElem?_toArray, List.getElem?_cons_zero, List.getElem?_cons_succ] at e0 e1 e2 e3 e4 e5
  have hwf : IntKind.u32.wrap (f : Int) = f := IntWalk.u32_in _ ⟨by omega, by omega⟩
  have hwt : IntKind.u32.wrap (t : Int) = t := IntWalk.u32_in _ ⟨by omega, by omega⟩
  go_region_held3 (fun w' => w'.cell? ⟨w.heap.size, 0, none⟩ = some (.int .i64 f) ∧ w'.cell? ⟨w.heap.size, 1, none⟩ = some (.int .i64 t) ∧ w'.cell? ⟨w.heap.size, 2, none⟩ = some (.int .u32 a) ∧ w'.cell? ⟨w.heap.size, 3, none⟩ = some (.int .u32 m) ∧ w'.cell? ⟨w.heap.size, 4, none⟩ = some (.int .u32 x) ∧ w'.cell? ⟨w.heap.size, 5, none⟩ = some (.int .u32 k))
    (first | exact s6 | exact s5 | exact s4 | exact s3 | exact s2 | exact s1 | exact ⟨e0, e1, e2, e3, e4, e5⟩ | exact ⟨keep_alloc s6.1, keep_alloc s6.2.1, keep_alloc s6.2.2.1, keep_alloc s6.2.2.2.1, keep_alloc s6.2.2.2.2.1, keep_alloc s6.2.2.2.2.2⟩ | exact ⟨keepc (keep_alloc s6.1) b7, keepc (keep_alloc s6.2.1) b7, keepc (keep_alloc s6.2.2.1) b7, keepc (keep_alloc s6.2.2.2.1) b7, keepc (keep_alloc s6.2.2.2.2.1) b7, keepc (keep_alloc s6.2.2.2.2.2) b7⟩)
    (first
    | (go_at_call_of 49 (Value.int IntKind.u32 ((f : Nat) : Int)); refine (putB2 f _ ?_ (by omega)).mono ?_; exact WidthsAt.drew (HW.out.alloc _); rintro e w1 ⟨A1, c1, rfl, r1, b1⟩; have s1 : Cells6 w.heap.size f t a m x k w1 := ⟨keepc (keep_drew e0) b1, keepc (keep_drew e1) b1, keepc (keep_drew e2) b1, keepc (keep_drew e3) b1, keepc (keep_drew e4) b1, keepc (keep_drew e5) b1⟩; have B1 := bnext (Below.drew (balloc (Below.refl _ w) _)) b1)
    | (go_at_call_of 49 (Value.int IntKind.u32 ((t : Nat) : Int)); refine (putB2 t _ ?_ (by omega)).mono ?_; exact (HW.out.below B1); rintro e w2 ⟨A2, c2, rfl, r2, b2⟩; have s2 : Cells6 w.heap.size f t a m x k w2 := ⟨keepc s1.1 b2, keepc s1.2.1 b2, keepc s1.2.2.1 b2, keepc s1.2.2.2.1 b2, keepc s1.2.2.2.2.1 b2, keepc s1.2.2.2.2.2 b2⟩; have B2 := bnext B1 b2)
    | (go_at_call_of 49 (Value.int IntKind.u32 ((a : Nat) : Int)); refine (putB4 a _ ?_ (by omega)).mono ?_; exact (HW.out.below B2); rintro e w3 ⟨A3, c3, rfl, r3, b3⟩; have s3 : Cells6 w.heap.size f t a m x k w3 := ⟨keepc s2.1 b3, keepc s2.2.1 b3, keepc s2.2.2.1 b3, keepc s2.2.2.2.1 b3, keepc s2.2.2.2.2.1 b3, keepc s2.2.2.2.2.2 b3⟩; have B3 := bnext B2 b3)
    | (go_at_call_of 49 (Value.int IntKind.u32 ((m : Nat) : Int)); refine (putB4 m _ ?_ (by omega)).mono ?_; exact (HW.out.below B3); rintro e w4 ⟨A4, c4, rfl, r4, b4⟩; have s4 : Cells6 w.heap.size f t a m x k w4 := ⟨keepc s3.1 b4, keepc s3.2.1 b4, keepc s3.2.2.1 b4, keepc s3.2.2.2.1 b4, keepc s3.2.2.2.2.1 b4, keepc s3.2.2.2.2.2 b4⟩; have B4 := bnext B3 b4)
    | (go_at_call_of 49 (Value.int IntKind.u32 ((x : Nat) : Int)); refine (putB4 x _ ?_ (by omega)).mono ?_; exact (HW.out.below B4); rintro e w5 ⟨A5, c5, rfl, r5, b5⟩; have s5 : Cells6 w.heap.size f t a m x k w5 := ⟨keepc s4.1 b5, keepc s4.2.1 b5, keepc s4.2.2.1 b5, keepc s4.2.2.2.1 b5, keepc s4.2.2.2.2.1 b5, keepc s4.2.2.2.2.2 b5⟩; have B5 := bnext B4 b5)
    | (go_at_call_of 49 (Value.int IntKind.u32 ((k : Nat) : Int)); refine (putB4 k _ ?_ (by omega)).mono ?_; exact (HW.out.below B5); rintro e w6 ⟨A6, c6, rfl, r6, b6⟩; have s6 : Cells6 w.heap.size f t a m x k w6 := ⟨keepc s5.1 b6, keepc s5.2.1 b6, keepc s5.2.2.1 b6, keepc s5.2.2.2.1 b6, keepc s5.2.2.2.2.1 b6, keepc s5.2.2.2.2.2 b6⟩; have B6 := bnext B5 b6)
    | (go_at_call 51; refine (joined_any [⟨A1, c1, bs 2 f⟩, ⟨A2, c2, bs 2 t⟩, ⟨A3, c3, bs 4 a⟩, ⟨A4, c4, bs 4 m⟩, ⟨A5, c5, bs 4 x⟩, ⟨A6, c6, bs 4 k⟩] _ 6 _ ?_ ?_ (Nat.le_of_ble_eq_true rfl) ?_).mono ?_; exact Rd.newS w6 22 _ _ (six_cells A1 A2 A3 A4 A5 A6 c1 c2 c3 c4 c5 c6 f t a m x k); exact six_rd ((((((r1.next b2).next b3).next b4).next b5).next b6).alloc (Nat.le_refl _) _) (((((r2.next b3).next b4).next b5).next b6).alloc (Nat.le_refl _) _) ((((r3.next b4).next b5).next b6).alloc (Nat.le_refl _) _) (((r4.next b5).next b6).alloc (Nat.le_refl _) _) ((r5.next b6).alloc (Nat.le_refl _) _) (r6.alloc (Nat.le_refl _) _) (size_le_alloc _ _); exact six_len _ _ _ _ _ _ _ _ _ _ _ _ _ _ _ _ _ _; rintro e w7 ⟨A7, c7, rfl, g1, g2, g3, b7, g4⟩))
  go_wp2
  go_ret2
  have hS := b7.size
  simp only [World.size_alloc] at hS
  have hl : (List.flatMap Piece.l [⟨A1, c1, bs 2 f⟩, ⟨A2, c2, bs 2 t⟩, ⟨A3, c3, bs 4 a⟩, ⟨A4, c4, bs 4 m⟩, ⟨A5, c5, bs 4 x⟩, ⟨A6, c6, bs 4 k⟩]) = entB f t a m x k := by simp [entB]
  rw [hl] at g1 g3
  exact ⟨A7, c7, by simp [entB], g1, by unfold maxLen at g2; omega, g3, bnext (balloc B6 _) b7⟩

set_option maxHeartbeats 1000000 in
theorem bytes_no (f t : Int) (a m x k : Nat) (w : World) (h : f < 0 ∨ 65535 < f ∨ t < 0 ∨ 65535 < t) :
    Calls Tryd.prog 32 #[.agg #[.int .i64 f, .int .i64 t, .int .u32 a, .int .u32 m, .int .u32 x, .int .u32 k]] w (GivesB [] 2 w) := by
  by_cases h1 : f < 0
  · go_enter Tryd.func32, Tryd.ntmps32
    go_wp2_with fail
    go_ret2
    exact ⟨none, 0, rfl, by simp, by simp, Rd.nil, balloc (Below.refl _ _) _⟩
  by_cases h2 : 65535 < f
  · go_enter Tryd.func32, Tryd.ntmps32
    go_wp2_with fail
    go_ret2
    exact ⟨none, 0, rfl, by simp, by simp, Rd.nil, balloc (Below.refl _ _) _⟩
  by_cases h3 : t < 0
  · go_enter Tryd.func32, Tryd.ntmps32
    go_wp2_with fail
    go_ret2
    exact ⟨none, 0, rfl, by simp, by simp, Rd.nil, balloc (Below.refl _ _) _⟩
  · have h4 : 65535 < t := by omega
    go_enter Tryd.func32, Tryd.ntmps32
    go_wp2_with fail
    go_ret2
    exact ⟨none, 0, rfl, by simp, by simp, Rd.nil, balloc (Below.refl _ _) _⟩
end Go.Proofs.YtpadlillbofpnaaDoor
