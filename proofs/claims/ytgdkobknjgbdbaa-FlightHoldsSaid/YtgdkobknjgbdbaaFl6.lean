/- flight: Peek, Take, Late. -/
import Derived.Test.YtgdkobknjgbdbaaFl5
namespace Go.Proofs.Ytgdkobknjgbdbaa
set_option linter.unusedVariables false
set_option linter.unusedSimpArgs false
open Go.RowKit
set_option maxRecDepth 100000

def mZ : Mm := ⟨0, 0, 0, 0, [], 0⟩
theorem mZ_arr (n : Option Addr) : mlA ⟨mZ, none, 0⟩ = #[.int .i64 0, .int .i64 0, .int .i64 0, .int .u32 0, .slice none 0 0, .int .i64 0] := rfl
/-- a mail and an error are handed back; the mail's bytes lie in memory of the call's own -/
def GivesM (m : Mm) (er : Int) (w0 : World) (e : Ending) (w' : World) : Prop :=
  ∃ A1 c1, e = .returned (.tuple #[.agg (mlA ⟨m, A1, c1⟩), .int .i64 er]) ∧ m.bs.length ≤ c1 ∧ c1 ≤ maxLen ∧ Rd w' w'.heap.size A1 (m.bs.map b8) ∧ (∀ a, A1 = some a → w0.heap.size ≤ a.block)
theorem gives_zero {w w' : World} {er : Int} : GivesM mZ er w (.returned (.tuple #[.agg #[.int .i64 0, .int .i64 0, .int .i64 0, .int .u32 0, .slice none 0 0, .int .i64 0], .int .i64 er])) w' := ⟨none, 0, rfl, by simp [mZ], by simp [maxLen], Rd.nil, by simp⟩
/-- a flight, behind a call -/
def Goes (w w' : World) (n0 g : Nat) (v v' : Value) (rs' : List Ml) (room lost : Nat) : Prop :=
  Fl w' n0 g v' rs' room lost ∧ Fr (Kp g v) w w' ∧ (∀ k, v'.ownBlock = some k → w.heap.size ≤ k ∨ v.ownBlock = some k)
theorem Goes.stay {w w' : World} {n0 g room lost : Nat} {v : Value} {rs : List Ml} (hF : Fl w n0 g v rs room lost) (hb : Below w.heap.size w w') : Goes w w' n0 g v v rs room lost := ⟨hF.below hb, Fr.of_below hb, fun _ e => .inr e⟩

/-- what is picked -/
def pickM (pick : Int) (L : List Mm) : Mm × Int := match L[pickF pick L.length]? with
  | some m => (m, 0)
  | none => (mZ, 5)
def pickL (pick : Int) (L : List Mm) : List Mm := L.eraseIdx (pickF pick L.length)
/-- what is late -/
def lateP (now delay : Int) (L : List Mm) : Mm × Int := if delay < 0 then (mZ, 2) else match L[fstL now delay L]? with
  | some m => (m, 0)
  | none => (mZ, 5)
def lateL (now delay : Int) (L : List Mm) : List Mm := if delay < 0 then L else L.eraseIdx (fstL now delay L)
theorem msL_erase (rs : List Ml) (i : Nat) : msL (rs.eraseIdx i) = (msL rs).eraseIdx i := by simp [msL, List.eraseIdx_eq_take_drop_succ, List.map_take, List.map_drop]
theorem msL_get? (rs : List Ml) (i : Nat) : (msL rs)[i]? = rs[i]?.map (·.m) := by simp [msL]

theorem peek_nil (pick : Int) (w : World) : Calls Try.prog 22 #[.pointer none, .int .i64 pick] w fun e w' => e = .returned (.tuple #[.agg #[.int .i64 0, .int .i64 0, .int .i64 0, .int .u32 0, .slice none 0 0, .int .i64 0], .int .i64 1]) ∧ Below w.heap.size w w' := by
  go_enter Try.func22, Try.ntmps22
  go_wp2_with (go_at_call 30; refine (live_nil _).mono ?_; rintro e w' ⟨rfl, rfl⟩)
  refine bodyPost_ret (v := .tuple #[.agg #[.int .i64 0, .int .i64 0, .int .i64 0, .int .u32 0, .slice none 0 0, .int .i64 0], .int .i64 1]) (by simp [results, Try.results22, go_sem]) rfl ⟨rfl, by go_grown⟩
theorem take_nil (pick : Int) (w : World) : Calls Try.prog 13 #[.pointer none, .int .i64 pick] w fun e w' => e = .returned (.tuple #[.agg #[.int .i64 0, .int .i64 0, .int .i64 0, .int .u32 0, .slice none 0 0, .int .i64 0], .int .i64 1]) ∧ Below w.heap.size w w' := by
  go_enter Try.func13, Try.ntmps13
  go_wp2_with (go_at_call 30; refine (live_nil _).mono ?_; rintro e w' ⟨rfl, rfl⟩)
  refine bodyPost_ret (v := .tuple #[.agg #[.int .i64 0, .int .i64 0, .int .i64 0, .int .u32 0, .slice none 0 0, .int .i64 0], .int .i64 1]) (by simp [results, Try.results13, go_sem]) rfl ⟨rfl, by go_grown⟩
theorem late_nil (now delay : Int) (w : World) : Calls Try.prog 11 #[.pointer none, .int .i64 now, .int .i64 delay] w fun e w' => e = .returned (.tuple #[.agg #[.int .i64 0, .int .i64 0, .int .i64 0, .int .u32 0, .slice none 0 0, .int .i64 0], .int .i64 1]) ∧ Below w.heap.size w w' := by
  go_enter Try.func11, Try.ntmps11
  go_wp2_with (go_at_call 30; refine (live_nil _).mono ?_; rintro e w' ⟨rfl, rfl⟩)
  refine bodyPost_ret (v := .tuple #[.agg #[.int .i64 0, .int .i64 0, .int .i64 0, .int .u32 0, .slice none 0 0, .int .i64 0], .int .i64 1]) (by simp [results, Try.results11, go_sem]) rfl ⟨rfl, by go_grown⟩

section
variable {n0 g room lost : Nat} {v : Value} {rs : List Ml} {w : World}
theorem peek_none (pick : Int) (hF : Fl w n0 g v rs room lost) (h0 : rs = []) : Calls Try.prog 22 #[.pointer (some ⟨g, 0, none⟩), .int .i64 pick] w fun e w' => e = .returned (.tuple #[.agg #[.int .i64 0, .int .i64 0, .int .i64 0, .int .u32 0, .slice none 0 0, .int .i64 0], .int .i64 5]) ∧ Below w.heap.size w w' := by
  subst h0
  have HL := Lib.hid hF.live
  obtain ⟨A, c, rfl, _⟩ := hF.row
  have d0 := hF.blk.cell 0
  have gl := hF.blk.lt
  simp only [List.getElem?_toArray, List.getElem?_cons_zero, List.length_nil] at d0
  clear hF
  go_enter Try.func22, Try.ntmps22
  go_wp2_with (go_at_call 30; refine (HL.out _ (balloc (Below.refl _ _) _)).mono ?_; rintro e w' ⟨rfl, rfl⟩)
  refine bodyPost_ret (v := .tuple #[.agg #[.int .i64 0, .int .i64 0, .int .i64 0, .int .u32 0, .slice none 0 0, .int .i64 0], .int .i64 5]) (by simp [results, Try.results22, go_sem]) rfl ⟨rfl, by go_grown⟩
theorem take_none (pick : Int) (hF : Fl w n0 g v rs room lost) (h0 : rs = []) : Calls Try.prog 13 #[.pointer (some ⟨g, 0, none⟩), .int .i64 pick] w fun e w' => e = .returned (.tuple #[.agg #[.int .i64 0, .int .i64 0, .int .i64 0, .int .u32 0, .slice none 0 0, .int .i64 0], .int .i64 5]) ∧ Below w.heap.size w w' := by
  subst h0
  have HL := Lib.hid hF.live
  obtain ⟨A, c, rfl, _⟩ := hF.row
  have d0 := hF.blk.cell 0
  have gl := hF.blk.lt
  simp only [List.getElem?_toArray, List.getElem?_cons_zero, List.length_nil] at d0
  clear hF
  go_enter Try.func13, Try.ntmps13
  go_wp2_with (go_at_call 30; refine (HL.out _ (balloc (Below.refl _ _) _)).mono ?_; rintro e w' ⟨rfl, rfl⟩)
  refine bodyPost_ret (v := .tuple #[.agg #[.int .i64 0, .int .i64 0, .int .i64 0, .int .u32 0, .slice none 0 0, .int .i64 0], .int .i64 5]) (by simp [results, Try.results13, go_sem]) rfl ⟨rfl, by go_grown⟩

/-- behind cut and own: the flight, the mail's bytes -/
theorem cut_fin {w1 w2 w3 w4 : World} {H i : Nat} {v' : Value} {A1 : Option Addr} {xs : List Value} (hF : Fl w n0 g v rs room lost) (b01 : Below w.heap.size w w1) (F2 : Fl w2 n0 g v' (rs.eraseIdx i) room lost) (f2 : Fr (Kp g v) w1 w2) (hv2 : ∀ k, v'.ownBlock = some k → w1.heap.size ≤ k)
    (hH : w.heap.size ≤ H) (hH1 : H < w1.heap.size) (b23 : Below w2.heap.size w2 w3) (hr : Rd w3 w3.heap.size A1 xs) (hav : ∀ a, A1 = some a → w2.heap.size ≤ a.block) (fE : Fr (fun k => k ≠ H) w3 w4) :
    Goes w w4 n0 g v v' (rs.eraseIdx i) room lost ∧ Rd w4 w4.heap.size A1 xs ∧ (∀ a, A1 = some a → w.heap.size ≤ a.block) := by
  have s1 := b01.size
  have s2 := f2.2.2.2.1
  have s3 := b23.size
  have gl := hF.blk.lt
  have f3 : Fr (Kp g v) w w3 := ((Fr.of_below b01).trans f2).trans (Fr.of_below b23)
  have f4 : Fr (Kp g v) w w4 := f3.then_below (fE.below (B := w.heap.size) (by omega) (fun b hb => by omega)) (Nat.le_refl _)
  refine ⟨⟨hF.next f4 (fun k hk => .inl (by have := hv2 k hk; omega)) (fE.blk (F2.blk.below b23 F2.blk.lt) (by omega)) (own_keep (own_below F2.own b23) (Nat.le_refl _) (fun k hk hl => fE.2.2.2.2 k (by have := hv2 k hk; omega) hl)) F2.len F2.lost0 (fun x hx => .inl (List.mem_of_mem_eraseIdx hx)), f4, fun k hk => .inl (by have := hv2 k hk; omega)⟩,
    (fE.rd hr (fun a e => by have := hav a e; omega)).more fE.2.2.2.1, fun a e => by have := hav a e; omega⟩

theorem own_fin {W w3 w4 : World} {H : Nat} {A1 : Option Addr} {xs : List Value} (bW : Below w.heap.size w W) (hH : w.heap.size ≤ H) (hH1 : H < W.heap.size) (b : Below W.heap.size W w3) (hr : Rd w3 w3.heap.size A1 xs) (hav : ∀ a, A1 = some a → W.heap.size ≤ a.block) (fE : Fr (fun k => k ≠ H) w3 w4) :
    Rd w4 w4.heap.size A1 xs ∧ (∀ a, A1 = some a → w.heap.size ≤ a.block) ∧ Below w.heap.size w w4 := by
  have s1 := bW.size
  have s2 := b.size
  exact ⟨(fE.rd hr (fun a e => by have := hav a e; omega)).more fE.2.2.2.1, fun a e => by have := hav a e; omega, (bnext bW b).trans (fE.below (by omega) (fun b hb => by omega))⟩

set_option maxHeartbeats 1000000 in
theorem take_ok (pick : Int) (r : Ml) (hF : Fl w n0 g v rs room lost) (h0 : 0 < rs.length) (hr : rs[pickF pick rs.length]? = some r) (hn0 : n0 ≤ w.heap.size) :
    Calls Try.prog 13 #[.pointer (some ⟨g, 0, none⟩), .int .i64 pick] w fun e w' => GivesM r.m 0 w e w' ∧ ∃ v', Goes w w' n0 g v v' (rs.eraseIdx (pickF pick rs.length)) room lost := by
  have HL := Lib.hid hF.live
  have HF := Lib.hid hF
  have b1 : Below w.heap.size w (w.alloc (.cells #[.int .i64 0, .int .i64 0, .int .i64 0, .int .u32 0, .slice none 0 0, .int .i64 0] 33)) := balloc (Below.refl _ _) _
  have HC := Lib.hid (cut_any n0 g room lost (pickF pick rs.length) v rs r _ (hF.below b1) (pickF_lt _ _ h0) hr (by simp; omega))
  have hi := pickF_lt pick _ h0
  have hmem : r ∈ rs := List.mem_of_getElem? hr
  have HO := Lib.hid (fun W (f2 : Fr (Kp g v) (w.alloc (.cells #[.int .i64 0, .int .i64 0, .int .i64 0, .int .u32 0, .slice none 0 0, .int .i64 0] 33)) W) => by
    have k := (hF.mails r hmem).next ((Fr.of_below b1).trans f2) (v' := v) (fun k e => .inr e)
    exact own_any r.m.link r.m.frm r.m.dst r.m.src r.A r.m.bs.length r.c W.heap.size r.m.sent r.m.bs rfl W k.1.rd (Nat.le_refl _) k.2.2.2)
  have hp := place_any pick rs.length (w.alloc (.cells #[.int .i64 0, .int .i64 0, .int .i64 0, .int .u32 0, .slice none 0 0, .int .i64 0] 33)) h0 (by have := hF.len; have := hF.room0.2; omega)
  have HP := Lib.hid hp
  have HX := Lib.hid (Blk.new w 33 #[.int .i64 0, .int .i64 0, .int .i64 0, .int .u32 0, .slice none 0 0, .int .i64 0])
  have hrow := hF.row_lt
  obtain ⟨A, c, hv, _⟩ := hF.row
  have d0 := hF.blk.cell 0
  have gl := hF.blk.lt
  have HH := Lib.hid (show Kp g v w.heap.size from ⟨by omega, fun e => by have := hrow _ e; omega⟩)
  simp only [List.getElem?_toArray, List.getElem?_cons_zero] at d0
  rw [hv] at d0
  have hne : ((rs.length : Int) == 0) = false := by rw [beq_eq_false_iff_ne]; omega
  have hne2 : rs.length ≠ 0 := by omega
  clear hF hp hr hv hmem h0
  generalize rs.length = n at *
  generalize pickF pick n = i at *
  simp only [mlA] at HC
  go_enter Try.func13, Try.ntmps13
  go_wp2_with (first
    | (go_at_call 30; refine (HL.out _ (balloc (Below.refl _ _) _)).mono ?_; rintro e w' ⟨rfl, rfl⟩)
    | (go_at_call 37; refine HP.out.mono ?_; rintro e w' ⟨rfl, rfl⟩)
    | (go_at_call 35; refine HC.out.mono ?_; rintro e w2 ⟨v', rfl, F2, f2, hv2⟩)
    | (go_at_call 34; refine (HO.out _ f2).mono ?_; rintro e w3 ⟨A3, c3, rfl, h1, h2, h3, hb3, hav⟩; obtain ⟨m0, m1, m2, m3, m4, m5⟩ := ((f2.blk HX.out HH.out).below hb3 (f2.blk HX.out HH.out).lt).six; obtain ⟨i0, i1, i2, i3, i4, i5⟩ := ((f2.blk HX.out HH.out).below hb3 (f2.blk HX.out HH.out).lt).ice6))
  refine bodyPost_ret (v := .tuple #[.agg (mlA ⟨r.m, A3, c3⟩), .int .i64 0]) (by simp [results, Try.results13, go_sem, mlA, m0, m1, m2, m3, m4, m5]) rfl ?_
  obtain ⟨q1, q2, q3⟩ := cut_fin HF.out b1 F2 f2 hv2 (Nat.le_refl _) (by simp) hb3 h3 hav ((((((Fr.refl.put 0 _).put 1 _).put 2 _).put 3 _).put 4 _).put 5 _)
  exact ⟨⟨A3, c3, rfl, h1, h2, q2, q3⟩, v', q1⟩

set_option maxHeartbeats 2000000 in
theorem peek_ok (pick : Int) (r : Ml) (hF : Fl w n0 g v rs room lost) (h0 : 0 < rs.length) (hr : rs[pickF pick rs.length]? = some r) :
    Calls Try.prog 22 #[.pointer (some ⟨g, 0, none⟩), .int .i64 pick] w fun e w' => GivesM r.m 0 w e w' ∧ Below w.heap.size w w' := by
  have HL := Lib.hid hF.live
  have b1 : Below w.heap.size w (w.alloc (.cells #[.int .i64 0, .int .i64 0, .int .i64 0, .int .u32 0, .slice none 0 0, .int .i64 0] 33)) := balloc (Below.refl _ _) _
  have hi := pickF_lt pick _ h0
  have hmem : r ∈ rs := List.mem_of_getElem? hr
  have HO := Lib.hid (fun W (hW : Below w.heap.size w W) => by
    have k := (hF.mails r hmem).next (Fr.of_below hW) (v' := v) (fun k e => .inr e)
    exact own_any r.m.link r.m.frm r.m.dst r.m.src r.A r.m.bs.length r.c W.heap.size r.m.sent r.m.bs rfl W k.1.rd (Nat.le_refl _) k.2.2.2)
  have hp := fun W => place_any pick rs.length W h0 (by have := hF.len; have := hF.room0.2; omega)
  have HP := Lib.hid hp
  have HX := Lib.hid (Blk.new w 33 #[.int .i64 0, .int .i64 0, .int .i64 0, .int .u32 0, .slice none 0 0, .int .i64 0])
  obtain ⟨A, c, hv, hc1, hc2, hR, _⟩ := hF.row
  obtain ⟨b, off, rfl, hbb, a0, a1, a2, a3, a4, a5⟩ := ml_at hR hr
  have d0 := hF.blk.cell 0
  have gl := hF.blk.lt
  have hl512 : rs.length ≤ 512 := by have := hF.len; have := hF.room0.2; omega
  simp only [List.getElem?_toArray, List.getElem?_cons_zero] at d0
  rw [hv] at d0
  have hne : ((rs.length : Int) == 0) = false := by rw [beq_eq_false_iff_ne]; omega
  have hne2 : rs.length ≠ 0 := by omega
  have HBB := Lib.hid b1
  unfold maxLen at hc2
  clear hF hp hr hv hmem h0 hR
  generalize rs.length = n at *
  generalize pickF pick n = i at *
  have hi1 : (i : Int) < (n : Int) := by omega
  have hi2 : (0 : Int) ≤ (i : Int) := by omega
  go_enter Try.func22, Try.ntmps22
  go_wp2_with (go_at_call 30; refine (HL.out _ (balloc (Below.refl _ _) _)).mono ?_; rintro e w' ⟨rfl, rfl⟩)
  have e0 := (b1.cell (p := ⟨g, 0, none⟩) gl).trans d0
  have g0 := (b1.cell (p := ⟨b, off + i * 6, none⟩) hbb).trans a0
  have g1 := (b1.cell (p := ⟨b, off + i * 6 + 1, none⟩) hbb).trans a1
  have g2 := (b1.cell (p := ⟨b, off + i * 6 + 2, none⟩) hbb).trans a2
  have g3 := (b1.cell (p := ⟨b, off + i * 6 + 3, none⟩) hbb).trans a3
  have g4 := (b1.cell (p := ⟨b, off + i * 6 + 4, none⟩) hbb).trans a4
  have g5 := (b1.cell (p := ⟨b, off + i * 6 + 5, none⟩) hbb).trans a5
  clear a0 a1 a2 a3 a4 a5 d0 b1
  have hs1 : (w.alloc (.cells #[.int .i64 0, .int .i64 0, .int .i64 0, .int .u32 0, .slice none 0 0, .int .i64 0] 33)).heap.size = w.heap.size + 1 := by simp
  generalize w.alloc (.cells #[.int .i64 0, .int .i64 0, .int .i64 0, .int .u32 0, .slice none 0 0, .int .i64 0] 33) = w1 at *
  go_region_with
    (first
    | (go_at_call 37; refine (HP.out _).mono ?_; rintro e w' ⟨rfl, rfl⟩)
    | (go_at_call 34; refine (HO.out _ (Below.drew HBB.out)).mono ?_; rintro e w3 ⟨A3, c3, rfl, h1, h2, h3, hb3, hav⟩; obtain ⟨m0, m1, m2, m3, m4, m5⟩ := (Blk.below (w := w1.drew) HX.out hb3 HX.out.lt).six; obtain ⟨i0, i1, i2, i3, i4, i5⟩ := (Blk.below (w := w1.drew) HX.out hb3 HX.out.lt).ice6))
  all_goals
    go_wp2
    refine bodyPost_ret (v := .tuple #[.agg (mlA ⟨r.m, A3, c3⟩), .int .i64 0]) (by simp [results, Try.results22, go_sem, mlA, m0, m1, m2, m3, m4, m5]) rfl ?_
    obtain ⟨q2, q3, q4⟩ := own_fin (W := w1.drew) (Below.drew HBB.out) (Nat.le_refl _) (show w.heap.size < w1.heap.size by omega) hb3 h3 hav ((((((Fr.refl.put 0 _).put 1 _).put 2 _).put 3 _).put 4 _).put 5 _)
    exact ⟨⟨A3, c3, rfl, h1, h2, q2, q3⟩, q4⟩

theorem late_bad (now delay : Int) (hF : Fl w n0 g v rs room lost) (h0 : delay < 0) : Calls Try.prog 11 #[.pointer (some ⟨g, 0, none⟩), .int .i64 now, .int .i64 delay] w fun e w' => e = .returned (.tuple #[.agg #[.int .i64 0, .int .i64 0, .int .i64 0, .int .u32 0, .slice none 0 0, .int .i64 0], .int .i64 2]) ∧ Below w.heap.size w w' := by
  have HL := Lib.hid hF.live
  have B3 := Lib.hid (show Below w.heap.size w (((w.alloc (.cells #[.int .i64 now] 2)).alloc (.cells #[.int .i64 delay] 2)).alloc (.cells #[.int .i64 0, .int .i64 0, .int .i64 0, .int .u32 0, .slice none 0 0, .int .i64 0] 33)) from balloc (balloc (balloc (Below.refl _ _) _) _) _)
  clear hF
  go_enter Try.func11, Try.ntmps11
  go_wp2_with (go_at_call 30; refine (HL.out _ B3.out).mono ?_; rintro e w' ⟨rfl, rfl⟩)
  refine bodyPost_ret (v := .tuple #[.agg #[.int .i64 0, .int .i64 0, .int .i64 0, .int .u32 0, .slice none 0 0, .int .i64 0], .int .i64 2]) (by simp [results, Try.results11, go_sem]) rfl ⟨rfl, by go_grown⟩

set_option maxHeartbeats 1000000 in
theorem late_none (now delay : Int) (hF : Fl w n0 g v rs room lost) (h0 : 0 ≤ delay) (hnow : now ≤ 9223372036854775807) (hz : fstZ now delay (msL rs) = -1) : Calls Try.prog 11 #[.pointer (some ⟨g, 0, none⟩), .int .i64 now, .int .i64 delay] w fun e w' => e = .returned (.tuple #[.agg #[.int .i64 0, .int .i64 0, .int .i64 0, .int .u32 0, .slice none 0 0, .int .i64 0], .int .i64 5]) ∧ Below w.heap.size w w' := by
  have hmf : ∀ (fn : Fn) (first cap : Array Value) (w : World), (Instr.makeFunc fn first cap).run Try.prog w = .ok (.func fn first cap) w := fun _ _ _ _ => rfl
  have HL := Lib.hid hF.live
  have b3 : Below w.heap.size w (((w.alloc (.cells #[.int .i64 now] 2)).alloc (.cells #[.int .i64 delay] 2)).alloc (.cells #[.int .i64 0, .int .i64 0, .int .i64 0, .int .u32 0, .slice none 0 0, .int .i64 0] 33)) := balloc (balloc (balloc (Below.refl _ _) _) _) _
  obtain ⟨A, c, hv, hc1, hc2, hR, _⟩ := hF.row
  have hs : ∀ r ∈ rs, 0 ≤ r.m.sent := fun r hr => by have := hF.ok r hr; simp [okM, okB] at this; omega
  have X1 : Blk (((w.alloc (.cells #[.int .i64 now] 2)).alloc (.cells #[.int .i64 delay] 2)).alloc (.cells #[.int .i64 0, .int .i64 0, .int .i64 0, .int .u32 0, .slice none 0 0, .int .i64 0] 33)) w.heap.size 2 #[.int .i64 now] := ((Blk.new w _ _).alloc _).alloc _
  have X2 : Blk (((w.alloc (.cells #[.int .i64 now] 2)).alloc (.cells #[.int .i64 delay] 2)).alloc (.cells #[.int .i64 0, .int .i64 0, .int .i64 0, .int .u32 0, .slice none 0 0, .int .i64 0] 33)) (w.heap.size + 1) 2 #[.int .i64 delay] := by
    have := (Blk.new (w.alloc (.cells #[.int .i64 now] 2)) 2 #[.int .i64 delay]).alloc (.cells #[.int .i64 0, .int .i64 0, .int .i64 0, .int .u32 0, .slice none 0 0, .int .i64 0] 33)
    rwa [World.size_alloc] at this
  have HFS := Lib.hid (first_any rs rs.length c w.heap.size rfl A now delay w.heap.size (w.heap.size + 1) _ (hR.below b3) b3.size (by have := hF.len; have := hF.room0.2; omega) hs hnow (X1.cell 0) (X2.cell 0))
  rw [hz] at HFS
  have B3 := Lib.hid b3
  have d0 := hF.blk.cell 0
  have gl := hF.blk.lt
  simp only [List.getElem?_toArray, List.getElem?_cons_zero] at d0
  rw [hv] at d0
  have hX := Blk.new ((w.alloc (.cells #[.int .i64 now] 2)).alloc (.cells #[.int .i64 delay] 2)) 33 #[.int .i64 0, .int .i64 0, .int .i64 0, .int .u32 0, .slice none 0 0, .int .i64 0]
  simp only [World.size_alloc] at hX
  have HX := Lib.hid hX
  have e0 := (b3.cell (p := ⟨g, 0, none⟩) gl).trans d0
  clear hF hs hv hz b3 hR hX X1 X2 d0
  generalize rs.length = n at *
  go_enter Try.func11, Try.ntmps11
  go_wp2_with (first
    | (go_at_call 30; refine (HL.out _ B3.out).mono ?_; rintro e w' ⟨rfl, rfl⟩)
    | (go_at_call 31; refine HFS.out.mono ?_; rintro e w2 ⟨rfl, b2⟩; obtain ⟨m0, m1, m2, m3, m4, m5⟩ := (HX.out.below b2 HX.out.lt).six; obtain ⟨i0, i1, i2, i3, i4, i5⟩ := (HX.out.below b2 HX.out.lt).ice6))
  refine bodyPost_ret (v := .tuple #[.agg #[.int .i64 0, .int .i64 0, .int .i64 0, .int .u32 0, .slice none 0 0, .int .i64 0], .int .i64 5]) (by simp [results, Try.results11, go_sem, m0, m1, m2, m3, m4, m5]) rfl ⟨rfl, ?_⟩
  have bb := bnext B3.out b2
  go_grown

set_option maxHeartbeats 1000000 in
theorem late_ok (now delay : Int) (r : Ml) (i : Nat) (hF : Fl w n0 g v rs room lost) (h0 : 0 ≤ delay) (hnow : now ≤ 9223372036854775807) (hz : fstZ now delay (msL rs) = i) (hi : i < rs.length) (hr : rs[i]? = some r) (hn0 : n0 ≤ w.heap.size) :
    Calls Try.prog 11 #[.pointer (some ⟨g, 0, none⟩), .int .i64 now, .int .i64 delay] w fun e w' => GivesM r.m 0 w e w' ∧ ∃ v', Goes w w' n0 g v v' (rs.eraseIdx i) room lost := by
  have hmf : ∀ (fn : Fn) (first cap : Array Value) (w : World), (Instr.makeFunc fn first cap).run Try.prog w = .ok (.func fn first cap) w := fun _ _ _ _ => rfl
  have HL := Lib.hid hF.live
  have HF := Lib.hid hF
  have b3 : Below w.heap.size w (((w.alloc (.cells #[.int .i64 now] 2)).alloc (.cells #[.int .i64 delay] 2)).alloc (.cells #[.int .i64 0, .int .i64 0, .int .i64 0, .int .u32 0, .slice none 0 0, .int .i64 0] 33)) := balloc (balloc (balloc (Below.refl _ _) _) _) _
  obtain ⟨A, c, hv, hc1, hc2, hR, _⟩ := hF.row
  have hs : ∀ r ∈ rs, 0 ≤ r.m.sent := fun r hr => by have := hF.ok r hr; simp [okM, okB] at this; omega
  have X1 : Blk (((w.alloc (.cells #[.int .i64 now] 2)).alloc (.cells #[.int .i64 delay] 2)).alloc (.cells #[.int .i64 0, .int .i64 0, .int .i64 0, .int .u32 0, .slice none 0 0, .int .i64 0] 33)) w.heap.size 2 #[.int .i64 now] := ((Blk.new w _ _).alloc _).alloc _
  have X2 : Blk (((w.alloc (.cells #[.int .i64 now] 2)).alloc (.cells #[.int .i64 delay] 2)).alloc (.cells #[.int .i64 0, .int .i64 0, .int .i64 0, .int .u32 0, .slice none 0 0, .int .i64 0] 33)) (w.heap.size + 1) 2 #[.int .i64 delay] := by
    have := (Blk.new (w.alloc (.cells #[.int .i64 now] 2)) 2 #[.int .i64 delay]).alloc (.cells #[.int .i64 0, .int .i64 0, .int .i64 0, .int .u32 0, .slice none 0 0, .int .i64 0] 33)
    rwa [World.size_alloc] at this
  have HFS := Lib.hid (first_any rs rs.length c w.heap.size rfl A now delay w.heap.size (w.heap.size + 1) _ (hR.below b3) b3.size (by have := hF.len; have := hF.room0.2; omega) hs hnow (X1.cell 0) (X2.cell 0))
  rw [hz] at HFS
  have hmem : r ∈ rs := List.mem_of_getElem? hr
  have HC := Lib.hid (fun W (hW : Below w.heap.size w W) => cut_any n0 g room lost i v rs r W (hF.below hW) hi hr (Nat.le_trans hn0 hW.size))
  have HO := Lib.hid (fun W (f2 : Fr (Kp g v) w W) => by
    have k := (hF.mails r hmem).next f2 (v' := v) (fun k e => .inr e)
    exact own_any r.m.link r.m.frm r.m.dst r.m.src r.A r.m.bs.length r.c W.heap.size r.m.sent r.m.bs rfl W k.1.rd (Nat.le_refl _) k.2.2.2)
  have B3 := Lib.hid b3
  have hrow := hF.row_lt
  have d0 := hF.blk.cell 0
  have gl := hF.blk.lt
  have HH := Lib.hid (show Kp g v (w.heap.size + 2) from ⟨by omega, fun e => by have := hrow _ e; omega⟩)
  simp only [List.getElem?_toArray, List.getElem?_cons_zero] at d0
  rw [hv] at d0
  have hX := Blk.new ((w.alloc (.cells #[.int .i64 now] 2)).alloc (.cells #[.int .i64 delay] 2)) 33 #[.int .i64 0, .int .i64 0, .int .i64 0, .int .u32 0, .slice none 0 0, .int .i64 0]
  simp only [World.size_alloc] at hX
  have HX := Lib.hid (show Blk (((w.alloc (.cells #[.int .i64 now] 2)).alloc (.cells #[.int .i64 delay] 2)).alloc (.cells #[.int .i64 0, .int .i64 0, .int .i64 0, .int .u32 0, .slice none 0 0, .int .i64 0] 33)) (w.heap.size + 2) 33 #[.int .i64 0, .int .i64 0, .int .i64 0, .int .u32 0, .slice none 0 0, .int .i64 0] from hX)
  have e0 := (b3.cell (p := ⟨g, 0, none⟩) gl).trans d0
  clear hF hs hv hz b3 hR hX hr hmem X1 X2 d0
  generalize rs.length = n at *
  simp only [mlA] at HC
  go_enter Try.func11, Try.ntmps11
  go_wp2_with (first
    | (go_at_call 30; refine (HL.out _ B3.out).mono ?_; rintro e w' ⟨rfl, rfl⟩)
    | (go_at_call 31; refine HFS.out.mono ?_; rintro e w1 ⟨rfl, b1⟩; have bb := bnext B3.out b1; have hx1 := HX.out.below b1 HX.out.lt)
    | (go_at_call 35; refine (HC.out _ bb).mono ?_; rintro e w2 ⟨v', rfl, F2, f2, hv2⟩)
    | (go_at_call 34; refine (HO.out _ ((Fr.of_below bb).trans f2)).mono ?_; rintro e w3 ⟨A3, c3, rfl, h1, h2, h3, hb3, hav⟩; obtain ⟨m0, m1, m2, m3, m4, m5⟩ := ((f2.blk hx1 HH.out).below hb3 (f2.blk hx1 HH.out).lt).six; obtain ⟨i0, i1, i2, i3, i4, i5⟩ := ((f2.blk hx1 HH.out).below hb3 (f2.blk hx1 HH.out).lt).ice6))
  refine bodyPost_ret (v := .tuple #[.agg (mlA ⟨r.m, A3, c3⟩), .int .i64 0]) (by simp [results, Try.results11, go_sem, mlA, m0, m1, m2, m3, m4, m5]) rfl ?_
  obtain ⟨q1, q2, q3⟩ := cut_fin HF.out bb F2 f2 hv2 (show w.heap.size ≤ w.heap.size + 2 by omega) hx1.lt hb3 h3 hav ((((((Fr.refl.put 0 _).put 1 _).put 2 _).put 3 _).put 4 _).put 5 _)
  exact ⟨⟨A3, c3, rfl, h1, h2, q2, q3⟩, v', q1⟩
end
end Go.Proofs.Ytgdkobknjgbdbaa
