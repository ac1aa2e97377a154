/- The document's Bytes of an entry. -/
import Derived.Test.YtpadlillbofpnaaDoorEBy
namespace Go.Proofs.YtpadlillbofpnaaDoor
set_option linter.unusedVariables false
set_option linter.unusedSimpArgs false
open Go.RowKit
set_option maxRecDepth 100000

theorem cells_below {g f t a m x k : Nat} {w w' : World} (s : Cells6 g f t a m x k w) (b : Below w.heap.size w w') : Cells6 g f t a m x k w' := ⟨keepc s.1 b, keepc s.2.1 b, keepc s.2.2.1 b, keepc s.2.2.2.1 b, keepc s.2.2.2.2.1 b, keepc s.2.2.2.2.2 b⟩
theorem cells_grown {g f t a m x k q : Nat} {w w' : World} {r : Option Nat} (s : Cells6 g f t a m x k w) (h : w.grownBy w' r) (hr : r = some q) (hq : g < q) : Cells6 g f t a m x k w' := by
  have hc : ∀ i v, w.cell? ⟨g, i, none⟩ = some v → w'.cell? ⟨g, i, none⟩ = some v := fun i v hv => (h.cell_far ⟨g, i, none⟩ (cell_lt hv) (by rw [hr]; intro e; have e2 : g = q := Option.some.inj e; omega)).trans hv
  exact ⟨hc _ _ s.1, hc _ _ s.2.1, hc _ _ s.2.2.1, hc _ _ s.2.2.2.1, hc _ _ s.2.2.2.2.1, hc _ _ s.2.2.2.2.2⟩
theorem own_lower {w : World} {base base' e n size : Nat} {v : Value} {xs : List Value} (h : w.ownsRow base e size v n xs) (hb : base' ≤ base) : w.ownsRow base' e size v n xs :=
  ⟨h.1, by
    rcases h.2 with h0 | ⟨g, cap, cur, h1, h2, h3⟩
    · exact .inl h0
    · exact .inr ⟨g, cap, cur, h1, Nat.le_trans hb h2, h3⟩⟩
theorem own_news {w : World} {base e g n c : Nat} {xs : List Value} (h : w.ownsRow base e 1 (.slice (some ⟨g, 0, none⟩) n c) n xs) : ∀ j u, xs[j]? = some u → w.cell? ((⟨g, 0, none⟩ : Addr).add j) = some u := fun j u hu => h.cells (g := g) (by simp [Value.ownBlock]) j u hu

set_option maxHeartbeats 4000000 in
theorem refEBytes_any (f t a m x k : Nat) (w : World) (hf : f < 65536) (ht : t < 65536) (ha : a < 4294967296) (hm : m < 4294967296) (hx : x < 4294967296) (hk : k < 4294967296) :
    Calls Tryd.prog 52 #[.agg #[.int .i64 f, .int .i64 t, .int .u32 a, .int .u32 m, .int .u32 x, .int .u32 k]] w (GivesS (entB f t a m x k) w) := by
  obtain ⟨i0, hi0, hz0, hz1, hz2⟩ := info_parts u8_info
  go_enter Tryd.func52, Tryd.ntmps52
  go_wp2_with fail
  have hB := Blk.new w 55 #[.int .i64 f, .int .i64 t, .int .u32 a, .int .u32 m, .int .u32 x, .int .u32 k]
  have e0 := (hB).cell 0
  have e1 := (hB).cell 1
  have e2 := (hB).cell 2
  have e3 := (hB).cell 3
  have e4 := (hB).cell 4
  have e5 := (hB).cell 5
  simp only [List.getElem?_toArray, List.getElem?_cons_zero, List.getElem?_cons_succ] at e0 e1 e2 e3 e4 e5
  have s0 : Cells6 w.heap.size f t a m x k (w.alloc (.cells #[.int .i64 f, .int .i64 t, .int .u32 a, .int .u32 m, .int .u32 x, .int .u32 k] 55)) := ⟨e0, e1, e2, e3, e4, e5⟩
  have B0 : Below w.heap.size w (w.alloc (.cells #[.int .i64 f, .int .i64 t, .int .u32 a, .int .u32 m, .int .u32 x, .int .u32 k] 55)) := balloc (Below.refl _ _) _
  have z0 : w.heap.size + 1 ≤ (w.alloc (.cells #[.int .i64 f, .int .i64 t, .int .u32 a, .int .u32 m, .int .u32 x, .int .u32 k] 55)).heap.size := by simp
  generalize w.alloc (.cells #[.int .i64 f, .int .i64 t, .int .u32 a, .int .u32 m, .int .u32 x, .int .u32 k] 55) = w0 at *
  clear hB e0 e1 e2 e3 e4 e5
  have hwf : IntKind.u32.wrap (f : Int) = f := IntWalk.u32_in _ ⟨by omega, by omega⟩
  have hwt : IntKind.u32.wrap (t : Int) = t := IntWalk.u32_in _ ⟨by omega, by omega⟩
  have s0' : Cells6 w.heap.size f t a m x k w0.drew := s0
  go_region_held3 (fun w' => Cells6 w.heap.size f t a m x k w') (first | exact s0' | exact s3 | exact s2 | exact s1)
    (first
    | (go_at_call_of 68 (Value.int IntKind.u32 ((f : Nat) : Int)); refine (refB2 f (w.heap.size + 1) w0.drew z0 hf).mono ?_; rintro e w1 ⟨g1, c1, rfl, o1, b1, h1⟩; have s1 := cells_below s0' b1)
    | (go_at_call_of 68 (Value.int IntKind.u32 ((t : Nat) : Int)); refine (refB2 t (w.heap.size + 1) w1 (Nat.le_trans z0 b1.size) ht).mono ?_; rintro e w2 ⟨g2, c2, rfl, o2, b2, h2⟩; have s2 := cells_below s1 b2)
    | (refine step_append_lies _ (by rfl) _ _ _ (by rfl) (w.heap.size + 1) 5 i0 _ 1 1 Tryd.underlying22 hi0 hz0 hz1 hz2 rfl (by omega) (.slice (some ⟨g1, 0, none⟩) (bs 2 f).length c1) (bs 2 f).length _ (by rfl) (own_below o1 b2) ⟨g2, 0, none⟩ (bs 2 t).length c2 _ (by rfl) (by simp) (own_news o2) (b8_one _) (by simp [bs_length]) (by simp only [bs_length, maxLen]; omega) (by simp only [bs_length]; omega) (Nat.le_trans z0 (Nat.le_trans b1.size b2.size)) w2.heap.size rfl ?_; intro g3 c3 w3 o3 r3 a3 l3; have s3 := cells_grown s2 r3 rfl (show w.heap.size < g1 from Nat.lt_of_lt_of_le (Nat.lt_succ_self _) (Nat.le_trans z0 h1))))
  go_wp2_with fail
  have z3 : w.heap.size + 1 ≤ w3.heap.size := Nat.le_trans z0 (Nat.le_trans b1.size (Nat.le_trans b2.size r3.size))
  have hg3 : w.heap.size + 1 ≤ g3 := own_base o3 g3 (by simp [Value.ownBlock])
  have B3 : Below w.heap.size w w3 := (bnext (bnext (bnext B0 (Below.drew (Below.refl _ w0))) b1) b2).grown r3 (Nat.le_trans (Nat.le_succ _) (Nat.le_trans z0 (Nat.le_trans b1.size b2.size))) (fun q e => by have : g1 = q := Option.some.inj e; have := Nat.le_trans z0 h1; omega)
  have s3' : Cells6 w.heap.size f t a m x k w3.drew := s3
  have o3' : w3.drew.ownsRow (w.heap.size + 1) 5 1 (.slice (some ⟨g3, 0, none⟩) ((bs 2 f).length + (bs 2 t).length) c3) ((bs 2 f).length + (bs 2 t).length) ((bs 2 f).map b8 ++ (bs 2 t).map b8) := o3
  clear o1 o2 b1 b2 s1 s2 s0 s0' r3 a3 l3 h1 h2 B0
  go_region_held3 (fun w' => Cells6 w.heap.size f t a m x k w') (first | exact s3' | exact s7 | exact s6 | exact s5 | exact s4)
    (first
    | (go_at_call_of 68 (Value.int IntKind.u32 ((a : Nat) : Int)); refine (refB4 a (w.heap.size + 1) w3.drew z3 ha).mono ?_; rintro e w4 ⟨g4, c4, rfl, o4, bw4, h4⟩; have s4 := cells_below s3' bw4; have z4 := Nat.le_trans z3 bw4.size)
    | (go_at_call_of 68 (Value.int IntKind.u32 ((m : Nat) : Int)); refine (refB4 m (w.heap.size + 1) w5 z5 hm).mono ?_; rintro e w6 ⟨g6, c6, rfl, o6, bw6, h6⟩; have s6 := cells_below s5 bw6; have z6 := Nat.le_trans z5 bw6.size)
    | (refine step_append_lies _ (by rfl) _ _ _ (by rfl) (w.heap.size + 1) 5 i0 _ 1 1 Tryd.underlying22 hi0 hz0 hz1 hz2 rfl (by omega) (.slice (some ⟨g3, 0, none⟩) ((bs 2 f).length + (bs 2 t).length) c3) ((bs 2 f).length + (bs 2 t).length) _ (by rfl) (own_below o3' bw4) ⟨g4, 0, none⟩ (bs 4 a).length c4 _ (by rfl) (by simp) (own_news o4) (b8_one _) (by simp [bs_length]) (by simp only [bs_length, maxLen]; omega) (by simp only [bs_length]; omega) (z4) w4.heap.size rfl ?_; intro g5 c5 w5 o5 r5 a5 l5; have s5 := cells_grown s4 r5 rfl (show w.heap.size < g3 from hg3); have z5 := Nat.le_trans z4 r5.size; have hg5 : w.heap.size + 1 ≤ g5 := own_base o5 g5 (by simp [Value.ownBlock]))
    | (refine step_append_lies _ (by rfl) _ _ _ (by rfl) (w.heap.size + 1) 5 i0 _ 1 1 Tryd.underlying22 hi0 hz0 hz1 hz2 rfl (by omega) (.slice (some ⟨g5, 0, none⟩) (((bs 2 f).length + (bs 2 t).length) + (bs 4 a).length) c5) (((bs 2 f).length + (bs 2 t).length) + (bs 4 a).length) _ (by rfl) (own_below o5 bw6) ⟨g6, 0, none⟩ (bs 4 m).length c6 _ (by rfl) (by simp) (own_news o6) (b8_one _) (by simp [bs_length]) (by simp only [bs_length, maxLen]; omega) (by simp only [bs_length]; omega) (z6) w6.heap.size rfl ?_; intro g7 c7 w7 o7 r7 a7 l7; have s7 := cells_grown s6 r7 rfl (show w.heap.size < g5 from hg5); have z7 := Nat.le_trans z6 r7.size; have hg7 : w.heap.size + 1 ≤ g7 := own_base o7 g7 (by simp [Value.ownBlock])))
  have B4 : Below w.heap.size w w4 := bnext (bnext B3 (Below.drew (Below.refl _ w3))) bw4
  have B5 : Below w.heap.size w w5 := B4.grown r5 B4.size (fun q e => by have : g3 = q := Option.some.inj e; omega)
  have B6 : Below w.heap.size w w6 := bnext B5 bw6
  have B7 : Below w.heap.size w w7 := B6.grown r7 B6.size (fun q e => by have : g5 = q := Option.some.inj e; omega)
  go_wp2_with fail
  have s7' : Cells6 w.heap.size f t a m x k w7.drew := s7
  have o7' : w7.drew.ownsRow (w.heap.size + 1) 5 1 (.slice (some ⟨g7, 0, none⟩) ((((bs 2 f).length + (bs 2 t).length) + (bs 4 a).length) + (bs 4 m).length) c7) ((((bs 2 f).length + (bs 2 t).length) + (bs 4 a).length) + (bs 4 m).length) ((((bs 2 f).map b8 ++ (bs 2 t).map b8) ++ (bs 4 a).map b8) ++ (bs 4 m).map b8) := o7
  clear s3' o3' o4 o5 o6 bw4 bw6 s4 s5 s6 r5 r7 a5 a7 l5 l7 h4 h6
  go_region_held3 (fun w' => Cells6 w.heap.size f t a m x k w') (first | exact s7' | exact s11 | exact s10 | exact s9 | exact s8)
    (first
    | (go_at_call_of 68 (Value.int IntKind.u32 ((x : Nat) : Int)); refine (refB4 x (w.heap.size + 1) w7.drew z7 hx).mono ?_; rintro e w8 ⟨g8, c8, rfl, o8, bw8, h8⟩; have s8 := cells_below s7' bw8; have z8 := Nat.le_trans z7 bw8.size)
    | (go_at_call_of 68 (Value.int IntKind.u32 ((k : Nat) : Int)); refine (refB4 k (w.heap.size + 1) w9 z9 hk).mono ?_; rintro e w10 ⟨g10, c10, rfl, o10, bw10, h10⟩; have s10 := cells_below s9 bw10; have z10 := Nat.le_trans z9 bw10.size)
    | (refine step_append_lies _ (by rfl) _ _ _ (by rfl) (w.heap.size + 1) 5 i0 _ 1 1 Tryd.underlying22 hi0 hz0 hz1 hz2 rfl (by omega) (.slice (some ⟨g7, 0, none⟩) ((((bs 2 f).length + (bs 2 t).length) + (bs 4 a).length) + (bs 4 m).length) c7) ((((bs 2 f).length + (bs 2 t).length) + (bs 4 a).length) + (bs 4 m).length) _ (by rfl) (own_below o7' bw8) ⟨g8, 0, none⟩ (bs 4 x).length c8 _ (by rfl) (by simp) (own_news o8) (b8_one _) (by simp [bs_length]) (by simp only [bs_length, maxLen]; omega) (by simp only [bs_length]; omega) (z8) w8.heap.size rfl ?_; intro g9 c9 w9 o9 r9 a9 l9; have s9 := cells_grown s8 r9 rfl (show w.heap.size < g7 from hg7); have z9 := Nat.le_trans z8 r9.size; have hg9 : w.heap.size + 1 ≤ g9 := own_base o9 g9 (by simp [Value.ownBlock]))
    | (refine step_append_lies _ (by rfl) _ _ _ (by rfl) (w.heap.size + 1) 5 i0 _ 1 1 Tryd.underlying22 hi0 hz0 hz1 hz2 rfl (by omega) (.slice (some ⟨g9, 0, none⟩) (((((bs 2 f).length + (bs 2 t).length) + (bs 4 a).length) + (bs 4 m).length) + (bs 4 x).length) c9) (((((bs 2 f).length + (bs 2 t).length) + (bs 4 a).length) + (bs 4 m).length) + (bs 4 x).length) _ (by rfl) (own_below o9 bw10) ⟨g10, 0, none⟩ (bs 4 k).length c10 _ (by rfl) (by simp) (own_news o10) (b8_one _) (by simp [bs_length]) (by simp only [bs_length, maxLen]; omega) (by simp only [bs_length]; omega) (z10) w10.heap.size rfl ?_; intro g11 c11 w11 o11 r11 a11 l11; have s11 := cells_grown s10 r11 rfl (show w.heap.size < g9 from hg9); have z11 := Nat.le_trans z10 r11.size; have hg11 : w.heap.size + 1 ≤ g11 := own_base o11 g11 (by simp [Value.ownBlock])))
  have B8 : Below w.heap.size w w8 := bnext (bnext B7 (Below.drew (Below.refl _ w7))) bw8
  have B9 : Below w.heap.size w w9 := B8.grown r9 B8.size (fun q e => by have : g7 = q := Option.some.inj e; omega)
  have B10 : Below w.heap.size w w10 := bnext B9 bw10
  have B11 : Below w.heap.size w w11 := B10.grown r11 B10.size (fun q e => by have : g9 = q := Option.some.inj e; omega)
  go_wp2_with fail
  go_ret
  have hl : ((((((bs 2 f).map b8 ++ (bs 2 t).map b8) ++ (bs 4 a).map b8) ++ (bs 4 m).map b8) ++ (bs 4 x).map b8) ++ (bs 4 k).map b8) = (entB f t a m x k).map b8 := by simp [entB]
  have hn : ((((((bs 2 f).length + (bs 2 t).length) + (bs 4 a).length) + (bs 4 m).length) + (bs 4 x).length) + (bs 4 k).length) = (entB f t a m x k).length := by simp [entB]; omega
  rw [hl] at o11
  exact own_gives hn.symm (own_lower o11 (Nat.le_succ _)) B11
end Go.Proofs.YtpadlillbofpnaaDoor
