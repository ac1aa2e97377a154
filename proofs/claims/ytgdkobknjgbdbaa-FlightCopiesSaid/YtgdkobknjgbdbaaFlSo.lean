/- flight: bytes.Clone, own and Peek, whose bytes may be written. -/
import Derived.Test.YtgdkobknjgbdbaaFlX
namespace Go.Proofs.Ytgdkobknjgbdbaa
set_option linter.unusedVariables false
set_option linter.unusedSimpArgs false
open Go.RowKit
set_option maxRecDepth 100000

/-- the cells of a block may be written -/
def Soft (w : World) (A : Option Addr) : Prop := ∀ a, A = some a → ∀ i, w.frozen? ⟨a.block, i, none⟩ = false
theorem Soft.none {w : World} : Soft w none := fun _ h => by cases h
theorem Soft.set {w : World} {A : Option Addr} (h : Soft w A) (p : Addr) (u : Value) : Soft (w.setCell p u) A := fun a e i => by
  rw [show (w.setCell p u).frozen? ⟨a.block, i, Option.none⟩ = w.frozen? ⟨a.block, i, Option.none⟩ from World.frozen?_setCell _ _ _ _]
  exact h a e i
theorem Soft.fr {w w' : World} {A : Option Addr} {p : Nat → Prop} (h : Soft w A) (hf : Fr p w w') (hA : ∀ a, A = some a → a.block < w.heap.size ∧ p a.block) : Soft w' A := fun a e i => by
  rw [hf.frozen (a := ⟨a.block, i, Option.none⟩) (hA a e).1 (hA a e).2]
  exact h a e i
/-- what is owned may be written -/
theorem own_soft {w : World} {base : Nat} {e : TypeId} {size n c : Nat} {A : Option Addr} {xs : List Value} (h : w.ownsRow base e size (.slice A n c) n xs) : Soft w A ∧ (∀ a, A = some a → a.block < w.heap.size) := by
  rcases h.2 with ⟨h1, _⟩ | ⟨g, cap, cur, h1, _, hh, _⟩
  · injection h1 with hA; subst hA; exact ⟨Soft.none, fun _ h => by cases h⟩
  · injection h1 with hA
    subst hA
    refine ⟨fun a e i => ?_, fun a e => ?_⟩
    · injection e with e; subst e
      simp [World.frozen?, hh]
    · injection e with e; subst e
      rcases Nat.lt_or_ge g w.heap.size with h | h
      · exact h
      · rw [Array.getElem?_eq_none h] at hh; cases hh
def GivesT (l : List UInt8) (w : World) (e : Ending) (w' : World) : Prop :=
  ∃ A c, e = .returned (.slice A l.length c) ∧ l.length ≤ c ∧ c ≤ maxLen ∧ Rd w' w'.heap.size A (l.map b8) ∧ Below w.heap.size w w' ∧ (∀ a, A = some a → w.heap.size ≤ a.block) ∧ Soft w' A ∧ (∀ a, A = some a → a.block < w'.heap.size)
theorem own_givesT {w w1 : World} {e : TypeId} {v : Value} {l : List UInt8} {n : Nat} (hn : l.length = n) (h : w1.ownsRow w.heap.size e 1 v n (l.map b8)) (hb : Below w.heap.size w w1) : GivesT l w (.returned v) w1 := by
  obtain ⟨A, c, rfl, q1, q2, q3, q4⟩ := own_row h
  obtain ⟨s1, s2⟩ := own_soft h
  subst hn
  exact ⟨A, c, rfl, q1, q2, q3, hb, q4, s1, s2⟩

set_option maxHeartbeats 400000 in
theorem cloneT_any (l : List UInt8) (n : Nat) (hn : l.length = n) (A : Option Addr) (c B : Nat) (w : World) (h : Rd w B A (l.map b8)) (hl : n ≤ 1048576) (hB : B ≤ w.heap.size) :
    Calls Try.prog 48 #[.slice A n c] w (GivesT l w) := by
  obtain ⟨i0, hi0, hz0, hz1, hz2⟩ := info_parts u8_info
  have HN := Lib.hid hn
  clear hn
  have hnil := fun w => Lib.run_eql_slice_nil (P := Try.prog) w 31 5 A n c 0 0 Try.underlying31
  cases A with
  | none =>
    have h0 : l = [] := by
      rcases Nat.eq_zero_or_pos (l.map b8).length with h0 | h0
      · exact List.eq_nil_of_length_eq_zero (by simpa using h0)
      · obtain ⟨_, _, hA, _⟩ := h h0; cases hA
    subst h0
    go_enter Try.func48, Try.ntmps48
    go_wp2
    go_ret
    exact ⟨none, 0, rfl, by simp, by simp, Rd.nil, Below.refl _ _, by simp, Soft.none, by simp⟩
  | some a =>
    go_enter Try.func48, Try.ntmps48
    go_wp2_with (at_builtin; refine wpList_append_rd rfl (.tmp 5) (.tmp 6) _ rfl w.heap.size 5 i0 _ 1 1 Try.underlying31 hi0 hz0 hz1 hz2 rfl (by omega) (.slice (some ⟨w.heap.size, 0, none⟩) 0 0) 0 [] rfl (World.ownsRow_lit w #[] 0 (Nat.le_refl _) (by simp [maxLen]) (by simp)) n c (l.map b8) rfl (by rw [List.length_map, HN.out]; omega) (h.alloc hB _) (b8_one l) (by simp only [maxLen]; omega) (by omega) (by simp) ?_; intro v1 w1 ho1 hg1 ha1)
    go_ret
    refine own_givesT HN.out (by simpa using ho1) (((Below.refl _ _).alloc (Nat.le_refl _) _).grown hg1 (by simp) (by simp [Value.ownBlock]))


set_option maxHeartbeats 1000000 in
theorem ownT_any (lk fr ds : Int) (sr : Nat) (A : Option Addr) (n c B : Nat) (st : Int) (l : List UInt8) (hn : l.length = n) (w : World) (hr : Rd w B A (l.map b8)) (hB : B ≤ w.heap.size) (hl : n ≤ 1048576) :
    Calls Try.prog 34 #[.agg #[.int .i64 lk, .int .i64 fr, .int .i64 ds, .int .u32 sr, .slice A n c, .int .i64 st]] w fun e w' => ∃ A1 c1, e = .returned (.agg #[.int .i64 lk, .int .i64 fr, .int .i64 ds, .int .u32 sr, .slice A1 n c1, .int .i64 st]) ∧ n ≤ c1 ∧ c1 ≤ maxLen ∧ Rd w' w'.heap.size A1 (l.map b8) ∧ Below w.heap.size w w' ∧ (∀ a, A1 = some a → w.heap.size ≤ a.block) ∧ Soft w' A1 ∧ (∀ a, A1 = some a → a.block < w'.heap.size) := by
  have B0 : Below w.heap.size w ((w.alloc (.cells #[.int .i64 lk, .int .i64 fr, .int .i64 ds, .int .u32 sr, .slice A n c, .int .i64 st] 33)).alloc (.cells #[.int .i64 0, .int .i64 0, .int .i64 0, .int .u32 0, .slice none 0 0, .int .i64 0] 33)) := balloc (balloc (Below.refl _ _) _) _
  have x0 := (Blk.new w 33 #[.int .i64 lk, .int .i64 fr, .int .i64 ds, .int .u32 sr, .slice A n c, .int .i64 st]).alloc (.cells #[.int .i64 0, .int .i64 0, .int .i64 0, .int .u32 0, .slice none 0 0, .int .i64 0] 33)
  have x1 := Blk.new (w.alloc (.cells #[.int .i64 lk, .int .i64 fr, .int .i64 ds, .int .u32 sr, .slice A n c, .int .i64 st] 33)) 33 #[.int .i64 0, .int .i64 0, .int .i64 0, .int .u32 0, .slice none 0 0, .int .i64 0]
  rw [World.size_alloc] at x1
  have HC := Lib.hid (cloneT_any l n hn A c B ((w.alloc (.cells #[.int .i64 lk, .int .i64 fr, .int .i64 ds, .int .u32 sr, .slice A n c, .int .i64 st] 33)).alloc (.cells #[.int .i64 0, .int .i64 0, .int .i64 0, .int .u32 0, .slice none 0 0, .int .i64 0] 33)) (hr.below (B0.mono hB)) (by omega) (by simp; omega))
  have HB0 := Lib.hid B0
  have X := Lib.hid (And.intro x0 x1)
  have HN := Lib.hid hn
  clear hr B0 x0 x1 hn
  go_enter Try.func34, Try.ntmps34
  go_wp2_with fail
  refine HC.out.mono ?_
  rintro e w1 ⟨A1, c1, rfl, h1, h2, h3, hb, hav, hso, hsl⟩
  simp only [World.size_alloc] at hav
  rw [HN.out] at h1 ⊢
  have y0 := X.out.1.below hb X.out.1.lt
  have y1 := X.out.2.below hb X.out.2.lt
  have HA0 := Lib.hid (show ∀ a, A1 = some a → w.heap.size ≠ a.block from fun a ha => by have := hav a ha; omega)
  have HA1 := Lib.hid (show ∀ a, A1 = some a → w.heap.size + 1 ≠ a.block from fun a ha => by have := hav a ha; omega)
  have HAV := Lib.hid (show ∀ a, A1 = some a → w.heap.size ≤ a.block from fun a ha => by have := hav a ha; omega)
  have BB := bnext HB0.out hb
  have HR := Lib.hid h3
  have HSO := Lib.hid (And.intro hso hsl)
  clear hav h3 hb hso hsl
  have ce0 := (y0).cell 0
  have ce1 := (y0).cell 1
  have ce2 := (y0).cell 2
  have ce3 := (y0).cell 3
  have ce4 := (y0).cell 4
  have ce5 := (y0).cell 5
  simp only [List.getElem?_toArray, List.getElem?_cons_zero, List.getElem?_cons_succ] at ce0 ce1 ce2 ce3 ce4 ce5
  have mm0 := (y1).cell 0
  have mm1 := (y1).cell 1
  have mm2 := (y1).cell 2
  have mm3 := (y1).cell 3
  have mm4 := (y1).cell 4
  have mm5 := (y1).cell 5
  simp only [List.getElem?_toArray, List.getElem?_cons_zero, List.getElem?_cons_succ] at mm0 mm1 mm2 mm3 mm4 mm5
  have gg0 := y1.frozen 0
  have gg1 := y1.frozen 1
  have gg2 := y1.frozen 2
  have gg3 := y1.frozen 3
  have gg4 := y1.frozen 4
  have gg5 := y1.frozen 5
  have k4 := y0.frozen 4
  have u0 := y0.set 4 (.slice A1 n c1)
  simp only [List.setIfInBounds_toArray, List.set_cons_zero, List.set_cons_succ] at u0
  have u1 := y1.far (p := ⟨w.heap.size, 4, none⟩) (by show ¬ w.heap.size + 1 = w.heap.size; omega) (.slice A1 n c1)
  have d0 := (u0).cell 0
  have d1 := (u0).cell 1
  have d2 := (u0).cell 2
  have d3 := (u0).cell 3
  have d4 := (u0).cell 4
  have d5 := (u0).cell 5
  simp only [List.getElem?_toArray, List.getElem?_cons_zero, List.getElem?_cons_succ] at d0 d1 d2 d3 d4 d5
  have m0 := (u1).cell 0
  have m1 := (u1).cell 1
  have m2 := (u1).cell 2
  have m3 := (u1).cell 3
  have m4 := (u1).cell 4
  have m5 := (u1).cell 5
  simp only [List.getElem?_toArray, List.getElem?_cons_zero, List.getElem?_cons_succ] at m0 m1 m2 m3 m4 m5
  have f0 := u1.frozen 0
  have f1 := u1.frozen 1
  have f2 := u1.frozen 2
  have f3 := u1.frozen 3
  have f4 := u1.frozen 4
  have f5 := u1.frozen 5
  clear y0 y1 u0
  go_wp2_with fail
  refine bodyPost_ret (v := .agg #[.int .i64 lk, .int .i64 fr, .int .i64 ds, .int .u32 sr, .slice A1 n c1, .int .i64 st]) (by simp [results, Try.results34, go_sem, mm0, mm1, mm2, mm3, mm4, mm5, ce0, ce1, ce2, ce3, ce4, ce5]) rfl ?_
  refine ⟨A1, c1, rfl, h1, h2, ?_, by go_grown, HAV.out, ((((((HSO.out.1.set _ _).set _ _).set _ _).set _ _).set _ _).set _ _).set _ _, fun a e => by simp only [World.size_setCell]; exact HSO.out.2 a e⟩
  simp only [World.size_setCell]
  exact ((((((HR.out.off HA0.out _).off HA1.out _).off HA1.out _).off HA1.out _).off HA1.out _).off HA1.out _).off HA1.out _

def GivesN (m : Mm) (er : Int) (w0 : World) (e : Ending) (w' : World) : Prop :=
  ∃ A1 c1, e = .returned (.tuple #[.agg (mlA ⟨m, A1, c1⟩), .int .i64 er]) ∧ m.bs.length ≤ c1 ∧ c1 ≤ maxLen ∧ Rd w' w'.heap.size A1 (m.bs.map b8) ∧ (∀ a, A1 = some a → w0.heap.size ≤ a.block) ∧ Soft w' A1 ∧ (∀ a, A1 = some a → a.block < w'.heap.size)
theorem givesN_zero {w w' : World} {er : Int} : GivesN mZ er w (.returned (.tuple #[.agg #[.int .i64 0, .int .i64 0, .int .i64 0, .int .u32 0, .slice none 0 0, .int .i64 0], .int .i64 er])) w' := ⟨none, 0, rfl, by simp [mZ], by simp [maxLen], Rd.nil, by simp, Soft.none, by simp⟩
section
variable {n0 g room lost : Nat} {v : Value} {rs : List Ml} {w : World}

set_option maxHeartbeats 2000000 in
theorem peekT_ok (pick : Int) (r : Ml) (hF : Fl w n0 g v rs room lost) (h0 : 0 < rs.length) (hr : rs[pickF pick rs.length]? = some r) :
    Calls Try.prog 22 #[.pointer (some ⟨g, 0, none⟩), .int .i64 pick] w fun e w' => GivesN r.m 0 w e w' ∧ Below w.heap.size w w' := by
  have HL := Lib.hid hF.live
  have b1 : Below w.heap.size w (w.alloc (.cells #[.int .i64 0, .int .i64 0, .int .i64 0, .int .u32 0, .slice none 0 0, .int .i64 0] 33)) := balloc (Below.refl _ _) _
  have hi := pickF_lt pick _ h0
  have hmem : r ∈ rs := List.mem_of_getElem? hr
  have HO := Lib.hid (fun W (hW : Below w.heap.size w W) => by
    have k := (hF.mails r hmem).next (Fr.of_below hW) (v' := v) (fun k e => .inr e)
    exact ownT_any r.m.link r.m.frm r.m.dst r.m.src r.A r.m.bs.length r.c W.heap.size r.m.sent r.m.bs rfl W k.1.rd (Nat.le_refl _) k.2.2.2)
  have hp := fun W => place_any pick rs.length W h0 (by have := hF.len; have := hF.room0.2; omega)
  have HP := Lib.hid hp
  have HX := Lib.hid (Blk.new w 33 #[.int .i64 0, .int .i64 0, .int .i64 0, .int .u32 0, .slice none 0 0, .int .i64 0])
  obtain ⟨A, c, hv, hc1, hc2, hR, _⟩ := hF.row
  obtain ⟨b, off, rfl, hbb, a0, a1, a2, a3, a4, a5⟩ := ml_at hR hr
  have d0 := hF.blk.cell 0
  have gl := hF.blk.lt
  have hl512 : rs.length ≤ 512 := by have := hF.len; have := hF.room0.2; omega
  simp only [List.getElem?_toArray, List.getElem?_cons_zero] at d0
  rw [hv] at d0
  have hne : ((rs.length : Int) == 0) = false := by rw [beq_eq_false_iff_ne]; omega
  have hne2 : rs.length ≠ 0 := by omega
  have HBB := Lib.hid b1
  unfold maxLen at hc2
  clear hF hp hr hv hmem h0 hR
  generalize rs.length = n at *
  generalize pickF pick n = i at *
  have hi1 : (i : Int) < (n : Int) := by omega
  have hi2 : (0 : Int) ≤ (i : Int) := by omega
  go_enter Try.func22, Try.ntmps22
  go_wp2_with (go_at_call 30; refine (HL.out _ (balloc (Below.refl _ _) _)).mono ?_; rintro e w' ⟨rfl, rfl⟩)
  have e0 := (b1.cell (p := ⟨g, 0, none⟩) gl).trans d0
  have g0 := (b1.cell (p := ⟨b, off + i * 6, none⟩) hbb).trans a0
  have g1 := (b1.cell (p := ⟨b, off + i * 6 + 1, none⟩) hbb).trans a1
  have g2 := (b1.cell (p := ⟨b, off + i * 6 + 2, none⟩) hbb).trans a2
  have g3 := (b1.cell (p := ⟨b, off + i * 6 + 3, none⟩) hbb).trans a3
  have g4 := (b1.cell (p := ⟨b, off + i * 6 + 4, none⟩) hbb).trans a4
  have g5 := (b1.cell (p := ⟨b, off + i * 6 + 5, none⟩) hbb).trans a5
  clear a0 a1 a2 a3 a4 a5 d0 b1
  have hs1 : (w.alloc (.cells #[.int .i64 0, .int .i64 0, .int .i64 0, .int .u32 0, .slice none 0 0, .int .i64 0] 33)).heap.size = w.heap.size + 1 := by simp
  generalize w.alloc (.cells #[.int .i64 0, .int .i64 0, .int .i64 0, .int .u32 0, .slice none 0 0, .int .i64 0] 33) = w1 at *
  go_region_with
    (first
    | (go_at_call 37; refine (HP.out _).mono ?_; rintro e w' ⟨rfl, rfl⟩)
    | (go_at_call 34; refine (HO.out _ (Below.drew HBB.out)).mono ?_; rintro e w3 ⟨A3, c3, rfl, h1, h2, h3, hb3, hav, hso, hsl⟩; obtain ⟨m0, m1, m2, m3, m4, m5⟩ := (Blk.below (w := w1.drew) HX.out hb3 HX.out.lt).six; obtain ⟨i0, i1, i2, i3, i4, i5⟩ := (Blk.below (w := w1.drew) HX.out hb3 HX.out.lt).ice6))
  all_goals
    go_wp2
    refine bodyPost_ret (v := .tuple #[.agg (mlA ⟨r.m, A3, c3⟩), .int .i64 0]) (by simp [results, Try.results22, go_sem, mlA, m0, m1, m2, m3, m4, m5]) rfl ?_
    obtain ⟨q2, q3, q4⟩ := own_fin (W := w1.drew) (Below.drew HBB.out) (Nat.le_refl _) (show w.heap.size < w1.heap.size by omega) hb3 h3 hav ((((((Fr.refl.put 0 _).put 1 _).put 2 _).put 3 _).put 4 _).put 5 _)
    exact ⟨⟨A3, c3, rfl, h1, h2, q2, q3, (((((hso.set _ _).set _ _).set _ _).set _ _).set _ _).set _ _, fun a e => by simp only [World.size_setCell]; exact hsl a e⟩, q4⟩


theorem peekgT_any (pick : Int) (hF : Fl w n0 g v rs room lost) :
    Calls Try.prog 22 #[.pointer (some ⟨g, 0, none⟩), .int .i64 pick] w fun e w' => GivesN (pickM pick (msL rs)).1 (pickM pick (msL rs)).2 w e w' ∧ Below w.heap.size w w' := by
  by_cases h0 : rs = []
  · refine (peek_none pick hF h0).mono fun e w' ⟨he, hb⟩ => ⟨?_, hb⟩
    subst h0
    rw [he]
    exact givesN_zero
  · have hpos : 0 < rs.length := List.length_pos_iff.2 h0
    have hi := pickF_lt pick rs.length hpos
    have hr := List.getElem?_eq_getElem hi
    refine (peekT_ok pick _ hF hpos hr).mono fun e w' ⟨hm, hb⟩ => ⟨?_, hb⟩
    have e1 : pickM pick (msL rs) = (rs[pickF pick rs.length].m, 0) := by
      unfold pickM
      rw [msL_len, msL_get?, hr]
      rfl
    rw [e1]
    exact hm
end

/-- bytes of a list that are counted up, one by one: what lies elsewhere lies as it lay -/
def IncA (A : Option Addr) (n : Nat) (w wr : World) : Prop :=
  Fr (fun k => ∀ a, A = some a → k ≠ a.block) w wr ∧ (0 < n → ∃ b off, A = some ⟨b, off, none⟩ ∧ ∀ j, j < n → (∃ z : Int, wr.cell? ⟨b, off + j, none⟩ = some (.int .u8 z)) ∧ wr.frozen? ⟨b, off + j, none⟩ = false)
theorem IncA.start {w : World} {B : Nat} {A : Option Addr} {l : List UInt8} (h : Rd w B A (l.map b8)) (hs : Soft w A) : IncA A l.length w w := ⟨Fr.refl, fun h0 => by
  obtain ⟨b, off, e, _, hc⟩ := h (by simpa using h0)
  exact ⟨b, off, e, fun j hj => ⟨⟨(l[j].toNat : Int), hc j (b8 l[j]) (by simp [hj])⟩, hs _ e (off + j)⟩⟩⟩
theorem IncA.at {A : Option Addr} {n : Nat} {w wr : World} (h : IncA A n w wr) {c : Nat} (hc : c < n) : ∃ b off z, A = some ⟨b, off, none⟩ ∧ wr.cell? ⟨b, off + c, none⟩ = some (.int .u8 z) ∧ wr.frozen? ⟨b, off + c, none⟩ = false := by
  obtain ⟨b, off, e, h1⟩ := h.2 (by omega)
  obtain ⟨⟨z, hz⟩, hf⟩ := h1 c hc
  exact ⟨b, off, z, e, hz, hf⟩
theorem IncA.step {b off n : Nat} {w wr : World} (h : IncA (some ⟨b, off, none⟩) n w wr) {c : Nat} (hc : c < n) (z' : Int) : IncA (some ⟨b, off, none⟩) n w (wr.setCell ⟨b, off + c, none⟩ (.int .u8 z')) := by
  refine ⟨h.1.trans (Fr.set (a := ⟨b, off + c, none⟩) (fun k hk => hk ⟨b, off, none⟩ rfl) _), fun h0 => ⟨b, off, rfl, fun j hj => ?_⟩⟩
  obtain ⟨b', off', e, h1⟩ := h.2 h0
  injection e with e
  injection e with e1 e2
  subst e1 e2
  obtain ⟨⟨z, hz⟩, hf⟩ := h1 j hj
  refine ⟨?_, (World.frozen?_setCell _ _ _ _).trans hf⟩
  by_cases hjc : j = c
  · subst hjc
    exact ⟨z', World.cell?_setCell_same _ _ _ hz⟩
  · exact ⟨z, (World.cell?_setCell_other _ _ _ _ (fun e => by injection e with _ e; omega)).trans hz⟩
end Go.Proofs.Ytgdkobknjgbdbaa
