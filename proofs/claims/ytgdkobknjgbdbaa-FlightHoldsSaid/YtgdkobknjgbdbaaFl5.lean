/- flight: New, Put, Len, Room, Lost. -/
import Derived.Test.YtgdkobknjgbdbaaFl4
import Derived.Deep.RegionLaw
namespace Go.Proofs.Ytgdkobknjgbdbaa
set_option linter.unusedVariables false
set_option linter.unusedSimpArgs false
open Go.RowKit
set_option maxRecDepth 100000

/-- what is lost behind one more -/
def lostN (n : Nat) : Nat := min (n + 1) 2147483647

theorem new_no (room : Int) (w : World) (h : ¬ (1 ≤ room ∧ room ≤ 512)) : Calls Try.prog 9 #[.int .i64 room] w fun e w' => e = .returned (.tuple #[.pointer none, .int .i64 2]) ∧ Below w.heap.size w w' := by
  by_cases h1 : room < 1
  · go_enter Try.func9, Try.ntmps9
    go_wp2_with fail
    go_ret2
    exact ⟨rfl, by go_grown⟩
  · have h2 : 512 < room := by omega
    clear h
    go_enter Try.func9, Try.ntmps9
    go_wp2_with fail
    go_ret2
    exact ⟨rfl, by go_grown⟩
theorem new_ok (room n0 : Nat) (w : World) (h : 0 < room ∧ room ≤ 512) (hn0 : n0 ≤ w.heap.size) : Calls Try.prog 9 #[.int .i64 room] w fun e w' => ∃ g, e = .returned (.tuple #[.pointer (some ⟨g, 0, none⟩), .int .i64 0]) ∧ Fl w' n0 g (.slice none 0 0) [] room 0 ∧ w.heap.size ≤ g ∧ Below w.heap.size w w' := by
  obtain ⟨h1, h2⟩ := h
  have h1' : (1 : Int) ≤ room := by omega
  have h2' : (room : Int) ≤ 512 := by omega
  go_enter Try.func9, Try.ntmps9
  go_wp2_with fail
  go_ret2
  have hb := Blk.new (w.alloc (.cells #[.int .i64 1, .int .i64 512] 66)) 69 #[.slice none 0 0, .int .i64 room, .int .i64 0]
  rw [World.size_alloc] at hb
  exact ⟨_, rfl, ⟨hb, by omega, World.ownsRow_nil _ _ _ _, by simp [Value.ownBlock], ⟨h1, h2⟩, by simp, by omega, by simp, by simp⟩, by omega, by go_grown⟩
theorem len_nil (w : World) : Calls Try.prog 15 #[.pointer none] w fun e w' => e = .returned (.int .i64 0) ∧ w = w' := by
  go_enter Try.func15, Try.ntmps15
  go_wp2_with (go_at_call 30; refine (live_nil _).mono ?_; rintro e w' ⟨rfl, rfl⟩)
  go_ret
  exact ⟨rfl, rfl⟩
theorem room_nil (w : World) : Calls Try.prog 25 #[.pointer none] w fun e w' => e = .returned (.int .i64 0) ∧ w = w' := by
  go_enter Try.func25, Try.ntmps25
  go_wp2_with (go_at_call 30; refine (live_nil _).mono ?_; rintro e w' ⟨rfl, rfl⟩)
  go_ret
  exact ⟨rfl, rfl⟩
theorem lost_nil (w : World) : Calls Try.prog 16 #[.pointer none] w fun e w' => e = .returned (.int .i64 0) ∧ w = w' := by
  go_enter Try.func16, Try.ntmps16
  go_wp2_with (go_at_call 30; refine (live_nil _).mono ?_; rintro e w' ⟨rfl, rfl⟩)
  go_ret
  exact ⟨rfl, rfl⟩
section
variable {n0 g room lost : Nat} {v : Value} {rs : List Ml} {w : World}
theorem len_any (hF : Fl w n0 g v rs room lost) : Calls Try.prog 15 #[.pointer (some ⟨g, 0, none⟩)] w fun e w' => e = .returned (.int .i64 rs.length) ∧ w = w' := by
  obtain ⟨A, c, rfl, _⟩ := hF.row
  obtain ⟨b0, b1, b2⟩ := hF.blk.three
  have h0 := hF.room0.1
  clear hF
  generalize rs.length = n at *
  go_enter Try.func15, Try.ntmps15
  go_wp2_with (go_at_call 30; refine (live_some g room _ b1 h0).mono ?_; rintro e w' ⟨rfl, rfl⟩)
  go_ret
  exact ⟨rfl, rfl⟩
theorem room_any (hF : Fl w n0 g v rs room lost) : Calls Try.prog 25 #[.pointer (some ⟨g, 0, none⟩)] w fun e w' => e = .returned (.int .i64 room) ∧ w = w' := by
  obtain ⟨b0, b1, b2⟩ := hF.blk.three
  have h0 := hF.room0.1
  clear hF
  go_enter Try.func25, Try.ntmps25
  go_wp2_with (go_at_call 30; refine (live_some g room _ b1 h0).mono ?_; rintro e w' ⟨rfl, rfl⟩)
  go_ret
  exact ⟨rfl, rfl⟩
theorem lost_any (hF : Fl w n0 g v rs room lost) : Calls Try.prog 16 #[.pointer (some ⟨g, 0, none⟩)] w fun e w' => e = .returned (.int .i64 lost) ∧ w = w' := by
  obtain ⟨b0, b1, b2⟩ := hF.blk.three
  have h0 := hF.room0.1
  clear hF
  go_enter Try.func16, Try.ntmps16
  go_wp2_with (go_at_call 30; refine (live_some g room _ b1 h0).mono ?_; rintro e w' ⟨rfl, rfl⟩)
  go_ret
  exact ⟨rfl, rfl⟩
end

theorem put_nil (r : Ml) (w : World) : Calls Try.prog 12 #[.pointer none, .agg (mlA r)] w fun e w' => e = .returned (.int .i64 1) ∧ Below w.heap.size w w' := by
  simp only [mlA]
  go_enter Try.func12, Try.ntmps12
  go_wp2_with fail
  refine scope_fwd 0 rfl ?_
  go_wp2_with (go_at_call 30; refine (live_nil _).mono ?_; rintro e w' ⟨rfl, rfl⟩)
  go_step3
  refine ⟨rfl, ?_⟩
  go_wp2
  rw [Exit.noGoto_ret]
  go_ret
  exact ⟨rfl, by go_grown⟩

section
variable {n0 g room lost : Nat} {v : Value} {rs : List Ml} {w : World}
theorem Fl.live (hF : Fl w n0 g v rs room lost) (W : World) (hW : Below w.heap.size w W) : Calls Try.prog 30 #[.pointer (some ⟨g, 0, none⟩)] W fun e w' => e = .returned (.bool true) ∧ W = w' :=
  live_some g room W ((hW.cell (p := ⟨g, 1, none⟩) hF.blk.lt).trans (hF.blk.cell 1)) hF.room0.1
theorem put_bad (r : Ml) (hF : Fl w n0 g v rs room lost) (hok : okM r.m = false) : Calls Try.prog 12 #[.pointer (some ⟨g, 0, none⟩), .agg (mlA r)] w fun e w' => e = .returned (.int .i64 2) ∧ Below w.heap.size w w' := by
  simp only [mlA]
  have HM := Lib.hid (fun W => maybe_any r.m.link r.m.frm r.m.dst r.m.src r.A r.m.bs.length r.c r.m.sent W)
  rw [show okB r.m.link r.m.frm r.m.dst r.m.sent = false from hok] at HM
  have HL := Lib.hid hF.live
  clear hF hok
  go_enter Try.func12, Try.ntmps12
  go_wp2_with fail
  refine scope_fwd 0 rfl ?_
  go_wp2_with (first
    | (go_at_call 30; refine (HL.out _ (balloc (Below.refl _ _) _)).mono ?_; rintro e w' ⟨rfl, rfl⟩)
    | (go_at_call 36; refine (HM.out _).mono ?_; rintro e w1 ⟨rfl, hb⟩))
  go_step3
  refine ⟨rfl, ?_⟩
  go_wp2
  rw [Exit.noGoto_ret]
  go_ret
  exact ⟨rfl, bnext (balloc (Below.refl _ _) _) hb⟩

set_option maxHeartbeats 1000000 in
theorem put_full (r : Ml) (hF : Fl w n0 g v rs room lost) (hok : okM r.m = true) (hfull : room ≤ rs.length) : Calls Try.prog 12 #[.pointer (some ⟨g, 0, none⟩), .agg (mlA r)] w fun e w' => e = .returned (.int .i64 3) ∧ Fl w' n0 g v rs room (lostN lost) ∧ Fr (Kp g v) w w' := by
  simp only [mlA]
  have HM := Lib.hid (fun W => maybe_any r.m.link r.m.frm r.m.dst r.m.src r.A r.m.bs.length r.c r.m.sent W)
  rw [show okB r.m.link r.m.frm r.m.dst r.m.sent = true from hok] at HM
  have HL := Lib.hid hF.live
  have HF := Lib.hid hF
  have hblk := hF.blk
  obtain ⟨A, c, hv, hc1, hc2, _⟩ := hF.row
  rw [hv] at hblk
  have HV := Lib.hid hv
  have HB := Lib.hid hblk
  have hlost := hF.lost0
  have hle : decide (room ≤ rs.length) = true := decide_eq_true hfull
  have hle2 : decide ((room : Int) ≤ rs.length) = true := decide_eq_true (by omega)
  clear hF hok hv hblk
  generalize rs.length = n at *
  go_enter Try.func12, Try.ntmps12
  go_wp2_with fail
  refine scope_fwd 0 rfl ?_
  go_wp2_with (first
    | (go_at_call 30; refine (HL.out _ (balloc (Below.refl _ _) _)).mono ?_; rintro e w' ⟨rfl, rfl⟩)
    | (go_at_call 36; refine (HM.out _).mono ?_; rintro e w1 ⟨rfl, hb⟩; have b1 := bnext (balloc (Below.refl w.heap.size w) _) hb; obtain ⟨d0, d1, d2⟩ := (HB.out.below b1 HB.out.lt).three; obtain ⟨f0, f1, f2⟩ := (HB.out.below b1 HB.out.lt).ice3))
  go_quiet (fail)
  have hmn : min (lost : Int) 2147483646 + 1 = (lostN lost : Nat) := by unfold lostN; omega
  have key : ∀ (nq : Nat) (x : Int), x = (lostN lost : Nat) → Fl ((w1.drewN nq).setCell ⟨g, 2, none⟩ (.int .i64 x)) n0 g v rs room (lostN lost) ∧ Fr (Kp g v) w ((w1.drewN nq).setCell ⟨g, 2, none⟩ (.int .i64 x)) := fun nq x hx => by
    subst hx
    have fg : Fr (fun k => k ≠ g) w ((w1.drewN nq).setCell ⟨g, 2, none⟩ (.int .i64 (lostN lost : Nat))) := Fr.put (Fr.of_below (below_drewN b1 nq)) 2 _
    have fr : Fr (Kp g v) w ((w1.drewN nq).setCell ⟨g, 2, none⟩ (.int .i64 (lostN lost : Nat))) := fg.mono (fun b _ h => h.1)
    have hb3 := ((HB.out.below b1 HB.out.lt).drewN nq).set 2 (.int .i64 (lostN lost : Nat))
    simp only [List.setIfInBounds_toArray, List.set_cons_zero, List.set_cons_succ] at hb3
    rw [← HV.out] at hb3
    exact ⟨HF.out.next fr (fun k e => .inr e) hb3 (own_keep HF.out.own (Nat.le_refl _) fun k hk hl => fg.2.2.2.2 k (fun e => HF.out.apart (e ▸ hk)) hl) HF.out.len (by unfold lostN; omega) (fun r hr => .inl hr), fr⟩
  go_wp2
  all_goals
    go_step3
    refine ⟨rfl, ?_⟩
    go_wp2
    rw [Exit.noGoto_ret]
    go_ret
    exact ⟨rfl, key _ _ (by omega)⟩

theorem put_fin {w2 w3 w5 : World} {A A3 : Option Addr} {n c c3 g5 c5 : Nat} {o : Obj} (r : Ml) (hF : Fl w n0 g v rs room lost) (hv : v = .slice A n c) (hn : rs.length = n) (hfree : n < room) (hok : okM r.m = true) (hl : r.m.bs.length ≤ 1048576)
    (b2 : Below w.heap.size w w2) (hs2 : w.heap.size < w2.heap.size) (hb3 : Below w2.drew.heap.size w2.drew w3) (h1 : r.m.bs.length ≤ c3) (h2 : c3 ≤ maxLen) (h3 : Rd w3 w3.heap.size A3 (r.m.bs.map b8)) (hav : ∀ a, A3 = some a → w2.drew.heap.size ≤ a.block)
    (o5 : w5.ownsRow n0 72 6 (.slice (some ⟨g5, 0, none⟩) (n + 1) c5) (n + 1) (mlC rs ++ mlL ⟨r.m, A3, c3⟩)) (r5 : (w3.alloc o).grownBy w5 (Value.slice A n c).ownBlock) (a5 : (Value.slice A n c).ownBlock = some g5 ∨ g5 = w3.heap.size + 1) :
    Fl (w5.setCell ⟨g, 0, none⟩ (.slice (some ⟨g5, 0, none⟩) (n + 1) c5)) n0 g (.slice (some ⟨g5, 0, none⟩) (n + 1) c5) (rs ++ [⟨r.m, A3, c3⟩]) room lost ∧
      Fr (Kp g v) w (w5.setCell ⟨g, 0, none⟩ (.slice (some ⟨g5, 0, none⟩) (n + 1) c5)) ∧ (∀ k, (Value.slice (some ⟨g5, 0, none⟩) (n + 1) c5).ownBlock = some k → w.heap.size ≤ k ∨ v.ownBlock = some k) ∧ (∀ a, A3 = some a → w.heap.size ≤ a.block) := by
  rw [← hv] at r5 a5
  have hb3' : Below w2.heap.size w2 w3 := ⟨hb3.os, hb3.tape, hb3.output, hb3.size, hb3.block⟩
  have hav' : ∀ a, A3 = some a → w2.heap.size ≤ a.block := hav
  have bw3 : Below w.heap.size w w3 := b2.trans (hb3'.mono (by omega))
  have hs3 := hb3'.size
  have gl := hF.blk.lt
  have rowlt := hF.row_lt
  have F3 : Fr (fun k => v.ownBlock ≠ some k) w3 w5 := (Fr.alloc o).trans (Fr.grown r5 (fun b hb => hb))
  have F6 : Fr (Kp g v) w3 (w5.setCell ⟨g, 0, none⟩ (.slice (some ⟨g5, 0, none⟩) (n + 1) c5)) := (F3.mono (fun b _ h => h.2)).trans (Fr.set (fun k hk => hk.1) _)
  have F0 : Fr (Kp g v) w (w5.setCell ⟨g, 0, none⟩ (.slice (some ⟨g5, 0, none⟩) (n + 1) c5)) := (Fr.of_below bw3).trans F6
  have hg5 : ∀ k, (Value.slice (some ⟨g5, 0, none⟩) (n + 1) c5).ownBlock = some k → k = g5 := fun k hk => by simpa [Value.ownBlock, eq_comm] using hk
  have hv5 : ∀ k, (Value.slice (some ⟨g5, 0, none⟩) (n + 1) c5).ownBlock = some k → w.heap.size ≤ k ∨ v.ownBlock = some k := fun k hk => by
    have e := hg5 k hk
    subst e
    rcases a5 with h | h
    · exact .inr h
    · left; omega
  have hgg : g5 ≠ g := by
    rcases a5 with h | h
    · exact fun e => hF.apart (e ▸ h)
    · omega
  have hb6 := (F3.blk (hF.blk.below bw3 gl) hF.apart).set 0 (.slice (some ⟨g5, 0, none⟩) (n + 1) c5)
  simp only [List.setIfInBounds_toArray, List.set_cons_zero] at hb6
  have hlen : (rs ++ [(⟨r.m, A3, c3⟩ : Ml)]).length = n + 1 := by simp [hn]
  refine ⟨hF.next F0 hv5 hb6 ?_ (by rw [hlen]; omega) hF.lost0 (fun x hx => ?_), F0, hv5, fun a e => by have := hav' a e; omega⟩
  · rw [hlen, mlC_append, show mlC [(⟨r.m, A3, c3⟩ : Ml)] = mlL ⟨r.m, A3, c3⟩ by simp [mlC]]
    exact own_keep o5 (Nat.le_refl _) (fun k hk _ => Below.heap_setCell w5 _ _ k (by have := hg5 k hk; show k ≠ g; omega))
  · rcases List.mem_append.1 hx with h | h
    · exact .inl h
    · right
      simp only [List.mem_singleton] at h
      subst h
      refine ⟨⟨(h3.to (p := fun b => w2.heap.size ≤ b ∧ b < w3.heap.size) (fun a e hl => ⟨hav' a e, hl⟩)).fr F6 (fun b hb _ => ⟨by omega, fun e => by have := rowlt b e; omega⟩) (fun b hb _ => ⟨by omega, fun e => ?_⟩), h1, h2, hl⟩, hok⟩
      have e' := hg5 b e
      rcases a5 with h | h
      · rw [← e'] at h; have := rowlt b h; omega
      · omega

set_option maxHeartbeats 2000000 in
theorem put_ok (r : Ml) (hF : Fl w n0 g v rs room lost) (hok : okM r.m = true) (hfree : rs.length < room) (hn0 : n0 ≤ w.heap.size) (hr : Rd w w.heap.size r.A (r.m.bs.map b8)) (hl : r.m.bs.length ≤ 1048576) :
    Calls Try.prog 12 #[.pointer (some ⟨g, 0, none⟩), .agg (mlA r)] w fun e w' => ∃ v' r', e = .returned (.int .i64 0) ∧ r'.m = r.m ∧ Fl w' n0 g v' (rs ++ [r']) room lost ∧ Fr (Kp g v) w w' ∧ (∀ k, v'.ownBlock = some k → w.heap.size ≤ k ∨ v.ownBlock = some k) ∧ (∀ a, r'.A = some a → w.heap.size ≤ a.block) := by
  obtain ⟨i0, hi0, hz0, hz1, hz2⟩ := info_parts under_info
  simp only [mlA]
  have HM := Lib.hid (fun W => maybe_any r.m.link r.m.frm r.m.dst r.m.src r.A r.m.bs.length r.c r.m.sent W)
  rw [show okB r.m.link r.m.frm r.m.dst r.m.sent = true from hok] at HM
  have HO := Lib.hid (fun W (hW : Below w.heap.size w W) => own_any r.m.link r.m.frm r.m.dst r.m.src r.A r.m.bs.length r.c w.heap.size r.m.sent r.m.bs rfl W (hr.below hW) hW.size hl)
  have HL := Lib.hid hF.live
  have HF := Lib.hid hF
  have hblk := hF.blk
  obtain ⟨A, c, hv, hc1, hc2, _⟩ := hF.row
  rw [hv] at hblk
  have HV := Lib.hid hv
  have HB := Lib.hid hblk
  have hroom := hF.room0.2
  have hown := hF.own
  have hle : decide (room ≤ rs.length) = false := decide_eq_false (by omega)
  have hle2 : decide ((room : Int) ≤ rs.length) = false := decide_eq_false (by omega)
  have hng : (Value.slice A rs.length c).ownBlock ≠ some g := by rw [← hv]; exact hF.apart
  rw [hv] at hown
  have HOK := Lib.hid hok
  have HRL := Lib.hid hl
  clear hF hok hv hblk hr hl
  generalize hnn : rs.length = n at *
  have HNN := Lib.hid hnn
  have HW := Lib.hid hown
  clear hnn hown
  go_enter Try.func12, Try.ntmps12
  go_wp2_with fail
  refine scope_fwd 0 rfl ?_
  go_wp2_with (first
    | (go_at_call 30; refine (HL.out _ (balloc (Below.refl _ _) _)).mono ?_; rintro e w' ⟨rfl, rfl⟩)
    | (go_at_call 36; refine (HM.out _).mono ?_; rintro e w1 ⟨rfl, hb⟩; have b1 := bnext (balloc (Below.refl w.heap.size w) _) hb; obtain ⟨d0, d1, d2⟩ := (HB.out.below b1 HB.out.lt).three; obtain ⟨f0, f1, f2⟩ := (HB.out.below b1 HB.out.lt).ice3))
  go_quiet (fail)
  have hX : Blk (w1.drewN nq) w.heap.size 33 #[.int .i64 r.m.link, .int .i64 r.m.frm, .int .i64 r.m.dst, .int .u32 r.m.src, .slice r.A r.m.bs.length r.c, .int .i64 r.m.sent] :=
    ((Blk.new w 33 #[.int .i64 r.m.link, .int .i64 r.m.frm, .int .i64 r.m.dst, .int .u32 r.m.src, .slice r.A r.m.bs.length r.c, .int .i64 r.m.sent]).below hb (by simp)).drewN nq
  have b2 := below_drewN b1 nq
  have hB2 := (HB.out.below b1 HB.out.lt).drewN nq
  have gl := HB.out.lt
  have hs2 : w.heap.size < (w1.drewN nq).heap.size := hX.lt
  clear d0 d1 d2 f0 f1 f2 b1 hb
  generalize w1.drewN nq = w2 at *
  obtain ⟨x0, x1, x2, x3, x4, x5⟩ := hX.six
  obtain ⟨d0, d1, d2⟩ := hB2.three
  obtain ⟨f0, f1, f2⟩ := hB2.ice3
  have HB2 := Lib.hid b2
  have HBK := Lib.hid hB2
  clear hX b2 hB2
  go_wp2_with fail
  have HNG := Lib.hid hng
  clear hng
  have hg2 : g < w2.heap.size := by omega
  go_region_law
    (first
    | (go_simp; go_at_call 34; refine (HO.out _ (Below.drew HB2.out)).mono ?_; rintro e w3 ⟨A3, c3, rfl, h1, h2, h3, hb3, hav⟩; have e0 := (hb3.cell (p := ⟨g, 0, none⟩) (show g < w2.heap.size from hg2)).trans d0; have e1 := (hb3.frozen (p := ⟨g, 0, none⟩) (show g < w2.heap.size from hg2)).trans f0; have s3 : w2.heap.size ≤ w3.heap.size := hb3.size; have hg3 : g < w3.heap.size := Nat.lt_of_lt_of_le hg2 s3; have bw3 : Below w.heap.size w w3 := bnext (Below.drew HB2.out) hb3)
    | (refine step_append_lies _ (by rfl) _ _ _ (by rfl) n0 72 i0 _ 6 64 Try.underlying67 hi0 hz0 hz1 hz2 rfl (by omega) (.slice A n c) n (mlC rs) (by rfl) (own_below HW.out (balloc bw3 (.cells #[.int .i64 r.m.link, .int .i64 r.m.frm, .int .i64 r.m.dst, .int .u32 r.m.src, .slice A3 r.m.bs.length c3, .int .i64 r.m.sent] 72))) ⟨w3.heap.size, 0, none⟩ 1 1 (mlL ⟨r.m, A3, c3⟩) (by rfl) (by rfl) (World.news_of_block (cs := #[.int .i64 r.m.link, .int .i64 r.m.frm, .int .i64 r.m.dst, .int .u32 r.m.src, .slice A3 r.m.bs.length c3, .int .i64 r.m.sent]) (t := 72) (fr := (0, 0)) (heap_alloc_new w3 _)) (mlL_one _) (by omega) (by simp only [maxLen]; omega) (by omega) (Nat.le_trans hn0 (balloc bw3 _).size) (w3.heap.size + 1) (by simp) ?_; intro g5 c5 w5 o5 r5 a5 l5; have F5 : Fr (fun k => (Value.slice A n c).ownBlock ≠ some k) w3 w5 := (Fr.alloc _).trans (Fr.grown r5 (fun b hb => hb)); have e5 := F5.cell (a := ⟨g, 0, none⟩) e0 HNG.out; have e6 := (F5.frozen (a := ⟨g, 0, none⟩) hg3 HNG.out).trans e1))
  all_goals
    go_wp2
    rw [jump_ret]
    go_ret
    obtain ⟨q1, q2, q3⟩ := put_fin r HF.out HV.out HNN.out hfree HOK.out HRL.out HB2.out hs2 hb3 h1 h2 h3 hav o5 r5 a5
    exact ⟨_, ⟨r.m, A3, c3⟩, rfl, rfl, q1, q2, q3⟩
end
end Go.Proofs.Ytgdkobknjgbdbaa
