/- flight: what a flight is; cut. -/
import Derived.Test.YtgdkobknjgbdbaaFl3
import Derived.IntWalk
namespace Go.Proofs.Ytgdkobknjgbdbaa
set_option linter.unusedVariables false
set_option linter.unusedSimpArgs false
open Go.RowKit
set_option maxRecDepth 100000

/-- what a call on a flight leaves alone: all but its block and its row -/
def Kp (g : Nat) (v : Value) (b : Nat) : Prop := b ≠ g ∧ v.ownBlock ≠ some b
/-- a mail that a flight holds: its bytes lie apart from the flight's own blocks -/
def MOk (w : World) (g : Nat) (v : Value) (r : Ml) : Prop :=
  RdP w (Kp g v) r.A (r.m.bs.map b8) ∧ r.m.bs.length ≤ r.c ∧ r.c ≤ maxLen ∧ r.m.bs.length ≤ 1048576
/-- a flight -/
structure Fl (w : World) (n0 g : Nat) (v : Value) (rs : List Ml) (room lost : Nat) : Prop where
  blk : Blk w g 69 #[v, .int .i64 room, .int .i64 lost]
  ge : n0 ≤ g
  own : w.ownsRow n0 72 6 v rs.length (mlC rs)
  apart : v.ownBlock ≠ some g
  room0 : 0 < room ∧ room ≤ 512
  len : rs.length ≤ room
  lost0 : lost ≤ 2147483647
  mails : ∀ r ∈ rs, MOk w g v r
  ok : ∀ r ∈ rs, okM r.m = true
theorem MOk.next {w w' : World} {g : Nat} {v v' : Value} {r : Ml} (h : MOk w g v r) (hf : Fr (Kp g v) w w') (hv : ∀ k, v'.ownBlock = some k → w.heap.size ≤ k ∨ v.ownBlock = some k) : MOk w' g v' r := by
  obtain ⟨h1, h3⟩ := h
  refine ⟨h1.fr hf (fun b hb _ => hb) (fun b hb hl => ⟨hb.1, fun e => ?_⟩), h3⟩
  rcases hv b e with h | h
  · omega
  · exact hb.2 h
theorem Fl.next {w w' : World} {n0 g room lost lost' : Nat} {v v' : Value} {rs rs' : List Ml} (h : Fl w n0 g v rs room lost) (hf : Fr (Kp g v) w w') (hv : ∀ k, v'.ownBlock = some k → w.heap.size ≤ k ∨ v.ownBlock = some k)
    (hb : Blk w' g 69 #[v', .int .i64 room, .int .i64 lost']) (ho : w'.ownsRow n0 72 6 v' rs'.length (mlC rs')) (hl : rs'.length ≤ room) (hlost : lost' ≤ 2147483647) (hm : ∀ r ∈ rs', r ∈ rs ∨ (MOk w' g v' r ∧ okM r.m = true)) : Fl w' n0 g v' rs' room lost' where
  blk := hb
  ge := h.ge
  own := ho
  apart := fun e => by
    rcases hv g e with h' | h'
    · have := h.blk.lt; omega
    · exact h.apart h'
  room0 := h.room0
  len := hl
  lost0 := hlost
  mails := fun r hr => (hm r hr).elim (fun k => (h.mails r k).next hf hv) (fun k => k.1)
  ok := fun r hr => (hm r hr).elim (fun k => h.ok r k) (fun k => k.2)
theorem Fl.below {w w' : World} {n0 g room lost : Nat} {v : Value} {rs : List Ml} (h : Fl w n0 g v rs room lost) (hb : Below w.heap.size w w') : Fl w' n0 g v rs room lost :=
  h.next (Fr.of_below hb) (fun k e => .inr e) (h.blk.below hb h.blk.lt) (own_below h.own hb) h.len h.lost0 (fun r hr => .inl hr)
theorem Fl.row {w : World} {n0 g room lost : Nat} {v : Value} {rs : List Ml} (h : Fl w n0 g v rs room lost) : ∃ A c, v = .slice A rs.length c ∧ rs.length ≤ c ∧ c ≤ maxLen ∧ Rd w w.heap.size A (mlC rs) ∧ (∀ a, A = some a → n0 ≤ a.block) := own_row h.own
theorem Fl.row_lt {w : World} {n0 g room lost : Nat} {v : Value} {rs : List Ml} (h : Fl w n0 g v rs room lost) : ∀ k, v.ownBlock = some k → k < w.heap.size := own_lt h.own
/-- the part of a list ahead of a place, and the one behind it -/
theorem cut_lo (b off n k i : Nat) (h : i ≤ n) (hn : n ≤ k) (hk : k ≤ 9223372036854775807) : ∃ A1, (∀ W, (Instr.slice 67 (.slice (some ⟨b, off, none⟩) n k) none (some (.int .i64 i)) (some (.int .i64 i))).run Try.prog W = .ok (.slice A1 i i) W) ∧
    ∀ (W : World) (B : Nat) (rs : List Ml), rs.length = n → Rd W B (some ⟨b, off, none⟩) (mlC rs) → Rd W B A1 (mlC (rs.take i)) := by
  refine ⟨if i = 0 then some ⟨b, off, none⟩ else some ⟨b, off + 0, none⟩, fun W => ?_, fun W B rs hl hr => ?_⟩
  · have := run_slice_hm W 67 (some ⟨b, off, none⟩) n k Try.underlying67 .i64 .i64 (i : Int) (i : Int) (by omega) (by omega) (by omega)
    rw [this]
    simp [go_sem, sliced, add_plain]
  · by_cases h0 : i = 0
    · subst h0; simp only [List.take_zero]; exact Rd.nil
    · have h2 := hr.cut 0 (i * 6) (by omega) (by rw [mlC_len]; omega)
      have h3 := rows_cut mlL_len rs 0 i
      rw [if_neg h0]
      rw [show mlC rs = rs.flatMap mlL from rfl] at h2
      rw [Nat.zero_mul] at h3
      rw [h3] at h2
      simpa [add_plain, mlC] using h2
theorem cut_hi (b off n k i : Nat) (h : i < n) (hn : n ≤ k) (hk : k ≤ 9223372036854775807) : ∃ A1, (∀ W, (Instr.slice 67 (.slice (some ⟨b, off, none⟩) n k) (some (.int .i64 ((i : Int) + 1))) none none).run Try.prog W = .ok (.slice A1 (n - (i + 1)) (k - (i + 1))) W) ∧
    ∀ (W : World) (B : Nat) (rs : List Ml), rs.length = n → Rd W B (some ⟨b, off, none⟩) (mlC rs) → Rd W B A1 (mlC (rs.drop (i + 1))) := by
  refine ⟨if k = i + 1 then some ⟨b, off, none⟩ else some ⟨b, off + (i + 1) * 6, none⟩, fun W => ?_, fun W B rs hl hr => ?_⟩
  · have := run_slice_l W 67 (some ⟨b, off, none⟩) n k Try.underlying67 .i64 ((i : Int) + 1) (by omega) (by omega)
    rw [this]
    have e : ((i : Int) + 1).toNat = i + 1 := by omega
    simp [go_sem, sliced, add_plain, e]
  · by_cases h0 : n = i + 1
    · rw [List.drop_eq_nil_of_le (by omega)]; exact Rd.nil
    · have h2 := hr.cut ((i + 1) * 6) ((n - (i + 1)) * 6) (by omega) (by rw [mlC_len, hl]; omega)
      have h3 := rows_cut mlL_len rs (i + 1) (n - (i + 1))
      rw [if_neg (by omega)]
      rw [show mlC rs = rs.flatMap mlL from rfl, h3, List.take_of_length_le (by simp; omega)] at h2
      simpa [add_plain, mlC] using h2
theorem take_drop_erase (rs : List Ml) (i : Nat) : rs.take i ++ rs.drop (i + 1) = rs.eraseIdx i := (List.eraseIdx_eq_take_drop_succ rs i).symm

set_option maxHeartbeats 2000000 in
theorem cut_any (n0 g room lost i : Nat) (v : Value) (rs : List Ml) (r : Ml) (w : World) (hF : Fl w n0 g v rs room lost) (hi : i < rs.length) (hr : rs[i]? = some r) (hn0 : n0 ≤ w.heap.size) :
    Calls Try.prog 35 #[.pointer (some ⟨g, 0, none⟩), .int .i64 i] w fun e w' => ∃ v', e = .returned (.agg (mlA r)) ∧ Fl w' n0 g v' (rs.eraseIdx i) room lost ∧ Fr (Kp g v) w w' ∧ (∀ k, v'.ownBlock = some k → w.heap.size ≤ k) := by
  have HF := Lib.hid hF
  have hblk := hF.blk
  have hlen := hF.len
  have hrm := hF.room0.2
  obtain ⟨A, c, hv, hc1, hc2, hR, hA⟩ := hF.row
  rw [hv] at hblk
  have HV := Lib.hid hv
  obtain ⟨b, off, rfl, hbb, c0, c1, c2, c3, c4, c5⟩ := ml_at hR hr
  unfold maxLen at hc2
  obtain ⟨A1, s1, hA1⟩ := cut_lo b off rs.length c i (by omega) hc1 hc2
  obtain ⟨A2, s2, hA2⟩ := cut_hi b off rs.length c i hi hc1 hc2
  have B0 : Below w.heap.size w ((w.alloc (.cells #[.int .i64 0, .int .i64 0, .int .i64 0, .int .u32 0, .slice none 0 0, .int .i64 0] 33)).alloc (.cells (mlA r) 33)) := balloc (balloc (Below.refl _ _) _) _
  have x0 := (Blk.new w 33 #[.int .i64 0, .int .i64 0, .int .i64 0, .int .u32 0, .slice none 0 0, .int .i64 0]).alloc (.cells (mlA r) 33)
  have x1 := Blk.new (w.alloc (.cells #[.int .i64 0, .int .i64 0, .int .i64 0, .int .u32 0, .slice none 0 0, .int .i64 0] 33)) 33 (mlA r)
  rw [World.size_alloc] at x1
  have HJ := Lib.hid (fun V G (xl : Blk V G 67 #[.slice A1 i i, .slice A2 (rs.length - (i + 1)) (c - (i + 1))]) (hW : Below w.heap.size w V) => by
    refine (join_any (rs.take i) (rs.drop (i + 1)) i (rs.length - (i + 1)) i (c - (i + 1)) G w.heap.size (by simp; omega) (by simp) A1 A2 V
      (hA1 _ _ rs rfl (hR.below hW)) (hA2 _ _ rs rfl (hR.below hW)) hW.size (by omega) (by omega) (xl.cell 0) (xl.cell 1)).mono (R' := fun e w' => ∃ A3 c3, e = .returned (.slice A3 (i + (rs.length - (i + 1))) c3) ∧ w'.ownsRow V.heap.size 72 6 (.slice A3 (i + (rs.length - (i + 1))) c3) (i + (rs.length - (i + 1))) (mlC (rs.eraseIdx i)) ∧ Below V.heap.size V w') ?_
    rintro e w' ⟨v1, he, ho, hb⟩
    rw [← mlC_append, take_drop_erase] at ho
    obtain ⟨A3, c3, rfl, _⟩ := own_row ho
    exact ⟨A3, c3, he, ho, hb⟩)
  have HN := Lib.hid (show rs.length = rs.length from rfl)
  have hi1 : (i : Int) < (rs.length : Int) := by omega
  have hi2 : (0 : Int) ≤ (i : Int) := by omega
  have hi3 : (i : Int) + 1 ≤ (rs.length : Int) := by omega
  have hcn : (rs.length : Int) ≤ (c : Int) := by omega
  have X := Lib.hid (And.intro x0 (And.intro x1 B0))
  have g0 := hblk.cell 0
  have gl := hblk.lt
  have gf := hblk.frozen 0
  simp only [List.getElem?_toArray, List.getElem?_cons_zero] at g0
  have HB := Lib.hid hblk
  simp only [mlA] at X
  generalize hnn : rs.length = n at *
  clear hF hblk hR hA1 hA2 x0 x1 B0 hA hv
  have hwr : IntKind.i64.wrap ((i : Int) + 1) = (i : Int) + 1 := IntWalk.i64_in _ (by omega)
  have HNN := Lib.hid hnn
  clear hnn
  go_enter Try.func35, Try.ntmps35
  go_wp2_with fail
  have HB2 := Lib.hid X.out.2.2
  have HX := Lib.hid (And.intro X.out.1 X.out.2.1)
  have g0' := (X.out.2.2.cell (p := ⟨g, 0, none⟩) gl).trans g0
  have gf' := (X.out.2.2.frozen (p := ⟨g, 0, none⟩) gl).trans gf
  have hs2 : w.heap.size + 2 ≤ ((w.alloc (.cells #[.int .i64 0, .int .i64 0, .int .i64 0, .int .u32 0, .slice none 0 0, .int .i64 0] 33)).alloc (.cells #[.int .i64 r.m.link, .int .i64 r.m.frm, .int .i64 r.m.dst, .int .u32 r.m.src, .slice r.A r.m.bs.length r.c, .int .i64 r.m.sent] 33)).heap.size := by simp
  clear X g0 gf
  generalize (w.alloc (.cells #[.int .i64 0, .int .i64 0, .int .i64 0, .int .u32 0, .slice none 0 0, .int .i64 0] 33)).alloc (.cells #[.int .i64 r.m.link, .int .i64 r.m.frm, .int .i64 r.m.dst, .int .u32 r.m.src, .slice r.A r.m.bs.length r.c, .int .i64 r.m.sent] 33) = w2 at *
  have gl2 : g < w2.heap.size := by omega
  have SB := Lib.hid (fun o : Obj => (show (w2.alloc o).drew.cell? ⟨g, 0, none⟩ = some (.slice (some ⟨b, off, none⟩) n c) ∧ (w2.alloc o).drew.frozen? ⟨g, 0, none⟩ = false from
    And.intro (((balloc (Below.refl w2.heap.size w2) o).cell (p := ⟨g, 0, none⟩) gl2).trans g0') (((balloc (Below.refl w2.heap.size w2) o).frozen (p := ⟨g, 0, none⟩) gl2).trans gf')))
  have hB1 : Below w2.heap.size w2 (w2.alloc (.cells #[.slice A1 i i, .slice A2 (n - (i + 1)) (c - (i + 1))] 67)).drew := Below.drew (balloc (Below.refl w2.heap.size w2) _)
  have HB1 := Lib.hid hB1
  clear hB1
  go_region_with
    (first | (go_at_call 49; refine (HJ.out (w2.alloc (.cells #[.slice A1 i i, .slice A2 (n - (i + 1)) (c - (i + 1))] 67)).drew w2.heap.size (Blk.new w2 _ _) (Below.drew (balloc HB2.out _))).mono ?_; rintro e w3 ⟨A3, c3, rfl, ho, hb⟩; have sj := And.intro ((hb.cell (p := ⟨g, 0, none⟩) (by show g < (w2.alloc _).heap.size; simp; omega)).trans (SB.out _).1) ((hb.frozen (p := ⟨g, 0, none⟩) (by show g < (w2.alloc _).heap.size; simp; omega)).trans (SB.out _).2); have b23 := bnext HB1.out hb; obtain ⟨m0, m1, m2, m3, m4, m5⟩ := (HX.out.1.below b23 HX.out.1.lt).six; obtain ⟨d0, d1, d2, d3, d4, d5⟩ := (HX.out.2.below b23 HX.out.2.lt).six; obtain ⟨f0, f1, f2, f3, f4, f5⟩ := (HX.out.1.below b23 HX.out.1.lt).ice6))
  all_goals
    have b03 : Below w.heap.size w w3 := HB2.out.trans (b23.mono HB2.out.size)
    have hgr : ∀ k, (Value.slice A3 (i + (n - (i + 1))) c3).ownBlock = some k → w2.heap.size ≤ k := fun k hk => by
      have := own_base' ho k hk
      have h2 : (w2.alloc (.cells #[.slice A1 i i, .slice A2 (n - (i + 1)) (c - (i + 1))] 67)).drew.heap.size = w2.heap.size + 1 := by show (w2.alloc _).heap.size = _; simp
      omega
    have y0 := (HX.out.1.below b23 HX.out.1.lt).far (p := ⟨g, 0, none⟩) (show ¬ w.heap.size = g by omega) (.slice A3 (i + (n - (i + 1))) c3)
    have y1 := (HX.out.2.below b23 HX.out.2.lt).far (p := ⟨g, 0, none⟩) (show ¬ w.heap.size + 1 = g by omega) (.slice A3 (i + (n - (i + 1))) c3)
    have yg := (HB.out.below b03 gl).set 0 (.slice A3 (i + (n - (i + 1))) c3)
    simp only [List.setIfInBounds_toArray, List.set_cons_zero] at yg
    have F4 : Fr (Kp g v) w (w3.setCell ⟨g, 0, none⟩ (.slice A3 (i + (n - (i + 1))) c3)) := (Fr.of_below b03).trans (Fr.set (fun k hk => hk.1) _)
    have ho4 : (w3.setCell ⟨g, 0, none⟩ (.slice A3 (i + (n - (i + 1))) c3)).ownsRow n0 72 6 (.slice A3 (i + (n - (i + 1))) c3) (i + (n - (i + 1))) (mlC (rs.eraseIdx i)) :=
      own_keep ho (by have h2 : (w2.alloc (.cells #[.slice A1 i i, .slice A2 (n - (i + 1)) (c - (i + 1))] 67)).drew.heap.size = w2.heap.size + 1 := by { show (w2.alloc _).heap.size = _; simp }
                      omega) (fun k hk _ => Below.heap_setCell w3 _ _ k (by have := hgr k hk; show k ≠ g; omega))
    have hs4 : w2.heap.size ≤ (w3.setCell ⟨g, 0, none⟩ (.slice A3 (i + (n - (i + 1))) c3)).heap.size := by simp only [World.size_setCell]; exact b23.size
    have FIN := Lib.hid (And.intro F4 (And.intro ho4 yg))
    have HGR := Lib.hid hgr
    clear m0 m1 m2 m3 m4 m5 d0 d1 d2 d3 d4 d5 f0 f1 f2 f3 f4 f5 b23 b03 hgr yg F4 ho4 ho hb sj SB HX HB HB2 HJ
    generalize w3.setCell ⟨g, 0, none⟩ (.slice A3 (i + (n - (i + 1))) c3) = w4 at *
    clear g0' gf'
    have m0 := (y0).cell 0
    have m1 := (y0).cell 1
    have m2 := (y0).cell 2
    have m3 := (y0).cell 3
    have m4 := (y0).cell 4
    have m5 := (y0).cell 5
    simp only [List.getElem?_toArray, List.getElem?_cons_zero, List.getElem?_cons_succ] at m0 m1 m2 m3 m4 m5
    have d0 := (y1).cell 0
    have d1 := (y1).cell 1
    have d2 := (y1).cell 2
    have d3 := (y1).cell 3
    have d4 := (y1).cell 4
    have d5 := (y1).cell 5
    simp only [List.getElem?_toArray, List.getElem?_cons_zero, List.getElem?_cons_succ] at d0 d1 d2 d3 d4 d5
    have f0 := y0.frozen 0
    have f1 := y0.frozen 1
    have f2 := y0.frozen 2
    have f3 := y0.frozen 3
    have f4 := y0.frozen 4
    have f5 := y0.frozen 5
    have hh : w.heap.size ≤ w4.heap.size := by omega
    clear y0 y1
    go_wp2_with fail
    refine bodyPost_ret (v := .agg (mlA r)) (by simp [results, Try.results35, go_sem, mlA, m0, m1, m2, m3, m4, m5]) rfl ?_
    have bE : Below w.heap.size w4 (((((((w4.setCell ⟨w.heap.size, 0, none⟩ (.int .i64 r.m.link)).setCell ⟨w.heap.size, 1, none⟩ (.int .i64 r.m.frm)).setCell ⟨w.heap.size, 2, none⟩ (.int .i64 r.m.dst)).setCell ⟨w.heap.size, 3, none⟩ (.int .u32 r.m.src)).setCell ⟨w.heap.size, 4, none⟩ (.slice r.A r.m.bs.length r.c)).setCell ⟨w.heap.size, 5, none⟩ (.int .i64 r.m.sent))) := by go_grown
    have FE : Fr (fun k => k ≠ w.heap.size) w4 (((((((w4.setCell ⟨w.heap.size, 0, none⟩ (.int .i64 r.m.link)).setCell ⟨w.heap.size, 1, none⟩ (.int .i64 r.m.frm)).setCell ⟨w.heap.size, 2, none⟩ (.int .i64 r.m.dst)).setCell ⟨w.heap.size, 3, none⟩ (.int .u32 r.m.src)).setCell ⟨w.heap.size, 4, none⟩ (.slice r.A r.m.bs.length r.c)).setCell ⟨w.heap.size, 5, none⟩ (.int .i64 r.m.sent))) :=
      (((((Fr.refl.put 0 _).put 1 _).put 2 _).put 3 _).put 4 _).put 5 _
    generalize (((((((w4.setCell ⟨w.heap.size, 0, none⟩ (.int .i64 r.m.link)).setCell ⟨w.heap.size, 1, none⟩ (.int .i64 r.m.frm)).setCell ⟨w.heap.size, 2, none⟩ (.int .i64 r.m.dst)).setCell ⟨w.heap.size, 3, none⟩ (.int .u32 r.m.src)).setCell ⟨w.heap.size, 4, none⟩ (.slice r.A r.m.bs.length r.c)).setCell ⟨w.heap.size, 5, none⟩ (.int .i64 r.m.sent))) = w5 at *
    clear m0 m1 m2 m3 m4 m5 d0 d1 d2 d3 d4 d5 f0 f1 f2 f3 f4 f5
    have hsE := bE.size
    have hle : (rs.eraseIdx i).length = i + (n - (i + 1)) := by rw [List.length_eraseIdx_of_lt (by rw [HNN.out]; exact hi), HNN.out]; omega
    have ho5 := own_keep FIN.out.2.1 (Nat.le_refl n0) (fun k hk hl => FE.2.2.2.2 k (by have := HGR.out k hk; omega) hl)
    rw [← hle] at ho5
    refine ⟨_, rfl, HF.out.next (v' := .slice A3 (i + (n - (i + 1))) c3) (lost' := lost) (FIN.out.1.then_below bE (Nat.le_refl _)) (fun k hk => .inl (by have := HGR.out k hk; omega)) (FIN.out.2.2.below bE gl) (by rw [← hle]; exact ho5) (by omega) HF.out.lost0 (fun x hx => .inl (List.mem_of_mem_eraseIdx hx)), FIN.out.1.then_below bE (Nat.le_refl _), fun k hk => by have := HGR.out k hk; omega⟩
end Go.Proofs.Ytgdkobknjgbdbaa
