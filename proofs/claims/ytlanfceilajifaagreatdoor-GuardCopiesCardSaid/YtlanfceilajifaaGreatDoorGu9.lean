/- The chapter's rows of guard (works): true. -/
import Derived.Test.YtlanfceilajifaaGreatDoorGu4
import Derived.Test.YtlanfceilajifaaGreatDoorGu8
import Derived.Test.YtlanfceilajifaaGreatDoorMA
import Derived.Test.YtlanfceilajifaaGreatDoorMD
import Derived.Test.YtlanfceilajifaaGreatDoorMB
namespace Go.Proofs.YtlanfceilajifaaGreatDoor
set_option linter.unusedVariables false
set_option linter.unusedSimpArgs false
open Go.RowKit Go.Shelf
attribute [local go_sem] Oper.semAt_some
set_option maxRecDepth 100000
def f16 : Fc := ⟨167772416, 30, 167772417, true⟩
theorem w16_new : newE [f16] = 0 := by decide +kernel
theorem net_any (n : Nat) (w : World) (hn : n = 5 ∨ n = 6 ∨ n = 7) : Calls Tryz.prog 36 #[.int .u32 n] w fun e w' => e = .returned (.agg #[.int .u32 (167772160 + n * 65536 : Nat), .int .i64 16]) ∧ Below w.heap.size w w' := by
  rcases hn with rfl | rfl | rfl
  all_goals
    go_enter Tryz.func36, Tryz.ntmps36
    go_wp2_with fail
    go_returns
    exact ⟨rfl, balloc (Below.refl _ _) _⟩
theorem look_c {W : World} {n0 g : Nat} {v : Value} (hF : Fs W n0 g v [f16]) (a : Nat) (ha : a < 4294967296) (b : List UInt8) (n : Nat) (hn : b.length = n) (A : Option Addr) (hw : WidthsAt W) (hr : Rd W W.heap.size A (b.map b8)) (hc : n ≤ 100) (k d : Int)
    (hk : lookE (fromFE [f16] 0 a) b = k) (hd : lookC (fromFE [f16] 0 a) b = d) (hl : (lookL (fromFE [f16] 0 a) b).length = 0) :
    Calls Tryz.prog 11 #[.pointer (some ⟨g, 0, none⟩), .int .i64 0, .int .u32 a, .slice A n n] W fun e w' => (∃ A' c', e = .returned (.tuple #[.agg #[.int .i64 d, .slice A' 0 c'], .int .i64 k])) ∧ Below W.heap.size W w' := by
  refine (look_any hF 0 a ha b n hn A n hw hr (Nat.le_refl _) (by omega)).mono ?_
  rintro e w' ⟨A', c', rfl, h1, h2, h3, h4⟩
  exact ⟨⟨A', c', by rw [hk, hd, hl]⟩, h4⟩
def es16 : List Er := [⟨2, 0, 168099840, 4294901760, 0, 3⟩, ⟨1, 0, 168230912, 4294901760, 0, 1⟩, ⟨2, 0, 168165376, 4294901760, 0, 16⟩]
def ts16 : List Tl := [⟨168099840, 16, 3⟩, ⟨168165376, 16, 16⟩]
theorem w16_tls : tlsC 2 es16 = ts16 := by decide +kernel
theorem w16_lfs : lfsC 2 es16 = [(1, 1)] := by decide +kernel
theorem mask16 : maskF 16 = 4294901760 := by decide +kernel
def l1_16 : List Int := cntL z15 (ixE 192) 1
def l2_16 : List Int := cntL l1_16 (ixR 2) 2
theorem w16_t : cntE (ixE 192) 1 = 0 ∧ cntE (ixE 200) 1 = 2 ∧ cntE (ixR 2) 2 = 0 ∧ cntL l1_16 (ixE 200) 1 = l1_16 ∧ manyF l2_16 (ixE 192) = 1 ∧ manyF l2_16 (ixR 2) = 2 := by decide +kernel
theorem fit16 : ∀ e ∈ es16, fitR e := by
  intro e he
  simp [es16] at he
  rcases he with rfl | rfl | rfl <;> simp [fitR]
theorem tells_c (A : Option Addr) (W : World) (hr : Rd W W.heap.size A (erC es16)) :
    Calls Tryz.prog 15 #[.agg #[.int .i64 2, .slice A 3 3]] W fun e w' => (∃ A' c', e = .returned (.tuple #[.slice A' 2 c', .int .i64 1]) ∧ 2 ≤ c' ∧ c' ≤ 9223372036854775807 ∧ Rd w' w'.heap.size A' (tlC ts16)) ∧ Below W.heap.size W w' := by
  refine (gtells_any 2 es16 3 3 rfl A W hr fit16 (by omega)).mono ?_
  rintro e w' ⟨A', c', rfl, h1, h2, h3, h4⟩
  rw [w16_tls] at h1 h3 ⊢
  rw [w16_lfs]
  exact ⟨⟨A', c', rfl, h1, h2, h3⟩, h4⟩
theorem left_c (A : Option Addr) (W : World) (hr : Rd W W.heap.size A (erC es16)) :
    Calls Tryz.prog 19 #[.agg #[.int .i64 2, .slice A 3 3]] W fun e w' => ∃ lb, e = .returned (.func (.func 53) #[] lb) ∧ IsLf w' [(1, 1)] lb ∧ Below W.heap.size W w' := by
  refine (gleft_any 2 es16 3 3 rfl A W hr fit16 (by omega)).mono ?_
  rintro e w' ⟨lb, rfl, h1, h2⟩
  rw [w16_lfs] at h1
  exact ⟨lb, rfl, h1, h2⟩

set_option maxHeartbeats 8000000 in
theorem works16_any (w : World) (hR : RelsAt w) (hw : WidthsAt w) : Calls Tryz.prog 9 #[] w fun e w' => e = .returned (.bool true) ∧ Below w.heap.size w w' := by
  have HR := Lib.hid hR
  have HW := Lib.hid hw
  clear hR hw
  have z0 := Boxed.new w 4 (.bool false)
  have b0 : Below w.heap.size w (w.alloc (.cells #[.bool false] 4)) := balloc (Below.refl _ _) _
  obtain ⟨w0, hw0⟩ : ∃ w0, w0 = w.alloc (.cells #[.bool false] 4) := ⟨_, rfl⟩
  rw [← hw0] at z0 b0
  have HW0 := Lib.hid hw0
  have HL : Ls (w0.alloc (.cells (fcA f16) 88)) (w0.heap.size + 1) (some ⟨w0.heap.size, 0, none⟩) 1 1 [f16] := ⟨rfl, ⟨Nat.le_refl _, by omega⟩, Rd.newL w0 88 (fcA f16) (fcC [f16]) rfl, fun f hf => by
    obtain rfl : f = f16 := by simpa using hf
    exact ⟨by decide, by decide⟩⟩
  have HNW := Lib.hid (fnew_any [f16] 1 1 (w0.heap.size + 1) _ _ HL (by simp) (HR.out.below (balloc b0 _)) (by omega))
  have b0' := balloc b0 (.cells (fcA f16) 88)
  have z0' := z0.alloc (.cells (fcA f16) 88)
  have X0 := Lib.hid (And.intro z0' b0')
  clear HL hw0 b0 b0' z0 z0'
  simp only [fcA, f16] at HNW X0
  refine (callsIn_wide (n := 6)).1 ?_
  refine callsIn_of_wp_marks Tryz.func9 rfl trivial ?_ rfl
  simp only [Tryz.ntmps9, List.size_toArray, List.length_cons, List.length_nil, Nat.reduceAdd, Nat.reduceSub, Array.replicate_succ, Array.replicate_zero, List.push_toArray, List.append_toArray, List.nil_append, List.cons_append]
  gi_upto_region 1 with fail
  rw [← HW0.out]
  gi_wp2_with fail
  refine ⟨trivial, ?_⟩
  refine (callsIn_wide.2 HNW.out).mono ?_
  rintro e w2 ⟨(⟨_, g, v, rfl, hF⟩ | ⟨hno, _⟩), b2⟩
  case inr => exact (hno w16_new).elim
  have y0 := boxed_below X0.out.1 b2 X0.out.1.lt
  have bw := bnext X0.out.2 b2
  have X2 := Lib.hid (And.intro y0 (And.intro hF bw))
  clear HNW X0 y0 bw hF b2
  obtain ⟨y0, hF, bw⟩ := X2.out
  have bb : Below w2.heap.size w2 (w2.alloc (.cells #[.int .u8 2, .int .u8 2, .int .u8 0, .int .u8 0] 5)) := balloc (Below.refl _ _) _
  have HC := Lib.hid (look_c (hF.below bb) 167772418 (by omega) [2, 2, 0, 0] 4 rfl _ (HW.out.below (bnext bw bb)) ((Rd.newL w2 5 #[.int .u8 2, .int .u8 2, .int .u8 0, .int .u8 0] (([2, 2, 0, 0] : List UInt8).map b8) rfl).more (by simp)) (by omega) 0 2 (by decide +kernel) (by decide +kernel) (by decide +kernel))
  have Y := Lib.hid (And.intro (boxed_below y0 bb y0.lt) (And.intro (hF.below bb) (bnext bw bb)))
  clear y0 hF bw bb X2
  gi_wp2_with fail
  refine ⟨trivial, ?_⟩
  refine (callsIn_wide.2 HC.out).mono ?_
  rintro e w3 ⟨⟨A0, c0, rfl⟩, b2⟩
  obtain ⟨y0, hF, bw⟩ := Y.out
  have yd := Blk.new w3 35 #[.int .i64 2, .slice A0 0 c0]
  replace b2 := balloc b2 (.cells #[.int .i64 2, .slice A0 0 c0] 35)
  replace y0 := boxed_below y0 b2 y0.lt
  replace hF := hF.below b2
  replace bw := bnext bw b2
  have X3 := Lib.hid (And.intro y0 (And.intro hF (And.intro yd bw)))
  clear y0 hF yd bw b2 HC Y
  gi_upto_region 3 with fail
  generalize w3.alloc (.cells #[.int .i64 2, .slice A0 0 c0] 35) = w3 at *
  obtain ⟨y0, hF, yd, bw⟩ := X3.out
  have bb : Below w3.heap.size w3 (w3.alloc (.cells #[.int .u8 2, .int .u8 2, .int .u8 0, .int .u8 0] 5)) := balloc (Below.refl _ _) _
  have HC := Lib.hid (look_c (hF.below bb) 167772674 (by omega) [2, 2, 0, 0] 4 rfl _ (HW.out.below (bnext bw bb)) ((Rd.newL w3 5 #[.int .u8 2, .int .u8 2, .int .u8 0, .int .u8 0] (([2, 2, 0, 0] : List UInt8).map b8) rfl).more (by simp)) (by omega) 192 0 (by decide +kernel) (by decide +kernel) (by decide +kernel))
  have Y := Lib.hid (And.intro (boxed_below y0 bb y0.lt) (And.intro (hF.below bb) (And.intro (yd.below bb yd.lt) (bnext bw bb))))
  clear y0 hF yd bw bb X3
  gi_wp2_with fail
  refine ⟨trivial, ?_⟩
  refine (callsIn_wide.2 HC.out).mono ?_
  rintro e w4 ⟨⟨A1, c1, rfl⟩, b2⟩
  obtain ⟨y0, hF, yd, bw⟩ := Y.out
  replace yd := (yd.below b2 yd.lt).alloc (.cells #[.int .i64 0, .slice A1 0 c1] 35)
  replace b2 := balloc b2 (.cells #[.int .i64 0, .slice A1 0 c1] 35)
  replace y0 := boxed_below y0 b2 y0.lt
  replace hF := hF.below b2
  replace bw := bnext bw b2
  have X4 := Lib.hid (And.intro y0 (And.intro hF (And.intro yd bw)))
  clear y0 hF yd bw b2 HC Y
  gi_upto_region 4 with fail
  generalize w4.alloc (.cells #[.int .i64 0, .slice A1 0 c1] 35) = w4 at *
  obtain ⟨y0, hF, yd, bw⟩ := X4.out
  have bb : Below w4.heap.size w4 (w4.alloc (.cells #[.int .u8 2, .int .u8 2, .int .u8 0] 5)) := balloc (Below.refl _ _) _
  have HC := Lib.hid (look_c (hF.below bb) 167772418 (by omega) [2, 2, 0] 3 rfl _ (HW.out.below (bnext bw bb)) ((Rd.newL w4 5 #[.int .u8 2, .int .u8 2, .int .u8 0] (([2, 2, 0] : List UInt8).map b8) rfl).more (by simp)) (by omega) 150 0 (by decide +kernel) (by decide +kernel) (by decide +kernel))
  have Y := Lib.hid (And.intro (boxed_below y0 bb y0.lt) (And.intro (hF.below bb) (And.intro (yd.below bb yd.lt) (bnext bw bb))))
  clear y0 hF yd bw bb X4
  gi_wp2_with fail
  refine ⟨trivial, ?_⟩
  refine (callsIn_wide.2 HC.out).mono ?_
  rintro e w5 ⟨⟨A2, c2, rfl⟩, b2⟩
  obtain ⟨y0, hF, yd, bw⟩ := Y.out
  replace yd := (yd.below b2 yd.lt).alloc (.cells #[.int .i64 0, .slice A2 0 c2] 35)
  replace b2 := balloc b2 (.cells #[.int .i64 0, .slice A2 0 c2] 35)
  replace y0 := boxed_below y0 b2 y0.lt
  replace hF := hF.below b2
  replace bw := bnext bw b2
  have X5 := Lib.hid (And.intro y0 (And.intro hF (And.intro yd bw)))
  clear y0 hF yd bw b2 HC Y
  gi_upto_region 5 with fail
  generalize w5.alloc (.cells #[.int .i64 0, .slice A2 0 c2] 35) = w5 at *
  obtain ⟨y0, hF, yd, bw⟩ := X5.out
  have bb : Below w5.heap.size w5 (w5.alloc (.cells #[.int .u8 2] 5)) := balloc (Below.refl _ _) _
  have HC := Lib.hid (look_c (hF.below bb) 167772417 (by omega) [2] 1 rfl _ (HW.out.below (bnext bw bb)) ((Rd.newL w5 5 #[.int .u8 2] (([2] : List UInt8).map b8) rfl).more (by simp)) (by omega) 191 0 (by decide +kernel) (by decide +kernel) (by decide +kernel))
  have Y := Lib.hid (And.intro (boxed_below y0 bb y0.lt) (And.intro (hF.below bb) (And.intro (yd.below bb yd.lt) (bnext bw bb))))
  clear y0 hF yd bw bb X5
  gi_wp2_with fail
  refine ⟨trivial, ?_⟩
  refine (callsIn_wide.2 HC.out).mono ?_
  rintro e w6 ⟨⟨A3, c3, rfl⟩, b2⟩
  obtain ⟨y0, hF, yd, bw⟩ := Y.out
  replace yd := (yd.below b2 yd.lt).alloc (.cells #[.int .i64 0, .slice A3 0 c3] 35)
  replace b2 := balloc b2 (.cells #[.int .i64 0, .slice A3 0 c3] 35)
  replace y0 := boxed_below y0 b2 y0.lt
  replace hF := hF.below b2
  replace bw := bnext bw b2
  have X6 := Lib.hid (And.intro y0 (And.intro hF (And.intro yd bw)))
  clear y0 hF yd bw b2 HC Y
  gi_upto_region 6 with fail
  generalize w6.alloc (.cells #[.int .i64 0, .slice A3 0 c3] 35) = w6 at *
  obtain ⟨y0, hF, yd, bw⟩ := X6.out
  have d0 := (yd).cell 0
  have d1 := (yd).cell 1
  simp only [List.getElem?_toArray, List.getElem?_cons_zero, List.getElem?_cons_succ] at d0 d1
  have Z0 := Lib.hid (And.intro y0 bw)
  clear hF X6 yd y0 bw
  gi_upto_region 8 with (refine ⟨trivial, ?_⟩; gi_at_call 13; refine (callsIn_wide.2 (num_any _ _)).mono ?_; rintro e w' ⟨rfl, rfl⟩)
  clear d0 d1
  have N5 : Hid (∀ W, Calls Tryz.prog 36 #[.int .u32 5] W fun e w' => e = .returned (.agg #[.int .u32 168099840, .int .i64 16]) ∧ Below W.heap.size W w') := Lib.hid (fun W => net_any 5 W (by decide))
  have O5 : Hid (∀ W, Calls Tryz.prog 35 #[.agg #[.int .u32 168099840, .int .i64 16], .int .i64 3] W fun e w' => e = .returned (.agg #[.int .i64 2, .int .i64 0, .int .u32 168099840, .int .u32 4294901760, .int .u32 0, .int .u32 3]) ∧ Below W.heap.size W w') := Lib.hid (fun W => by
    have := refOne_any 168099840 16 3 W (by omega) (by omega) (by omega)
    rw [mask16] at this
    exact this)
  have N7 : Hid (∀ W, Calls Tryz.prog 36 #[.int .u32 7] W fun e w' => e = .returned (.agg #[.int .u32 168230912, .int .i64 16]) ∧ Below W.heap.size W w') := Lib.hid (fun W => net_any 7 W (by decide))
  have O7 : Hid (∀ W, Calls Tryz.prog 35 #[.agg #[.int .u32 168230912, .int .i64 16], .int .i64 1] W fun e w' => e = .returned (.agg #[.int .i64 2, .int .i64 0, .int .u32 168230912, .int .u32 4294901760, .int .u32 0, .int .u32 1]) ∧ Below W.heap.size W w') := Lib.hid (fun W => by
    have := refOne_any 168230912 16 1 W (by omega) (by omega) (by omega)
    rw [mask16] at this
    exact this)
  have N6 : Hid (∀ W, Calls Tryz.prog 36 #[.int .u32 6] W fun e w' => e = .returned (.agg #[.int .u32 168165376, .int .i64 16]) ∧ Below W.heap.size W w') := Lib.hid (fun W => net_any 6 W (by decide))
  have O6 : Hid (∀ W, Calls Tryz.prog 35 #[.agg #[.int .u32 168165376, .int .i64 16], .int .i64 16] W fun e w' => e = .returned (.agg #[.int .i64 2, .int .i64 0, .int .u32 168165376, .int .u32 4294901760, .int .u32 0, .int .u32 16]) ∧ Below W.heap.size W w') := Lib.hid (fun W => by
    have := refOne_any 168165376 16 16 W (by omega) (by omega) (by omega)
    rw [mask16] at this
    exact this)
  gi_wp2_with fail
  refine ⟨trivial, ?_⟩
  refine (callsIn_wide.2 (N5.out _)).mono ?_
  rintro e u1 ⟨rfl, bu1⟩
  gi_wp2_with fail
  refine ⟨trivial, ?_⟩
  refine (callsIn_wide.2 (O5.out _)).mono ?_
  rintro e u2 ⟨rfl, bu2⟩
  gi_wp2_with fail
  refine ⟨trivial, ?_⟩
  refine (callsIn_wide.2 (N7.out _)).mono ?_
  rintro e u3 ⟨rfl, bu3⟩
  gi_wp2_with fail
  refine ⟨trivial, ?_⟩
  refine (callsIn_wide.2 (O7.out _)).mono ?_
  rintro e u4 ⟨rfl, bu4⟩
  gi_wp2_with fail
  refine ⟨trivial, ?_⟩
  refine (callsIn_wide.2 (N6.out _)).mono ?_
  rintro e u5 ⟨rfl, bu5⟩
  gi_wp2_with fail
  refine ⟨trivial, ?_⟩
  refine (callsIn_wide.2 (O6.out _)).mono ?_
  rintro e u6 ⟨rfl, bu6⟩
  obtain ⟨y0, bw⟩ := Z0.out
  have bu := bnext (bnext (bnext (bnext (bnext bu1 bu2) bu3) bu4) bu5) bu6
  replace y0 := boxed_below y0 bu y0.lt
  replace bw := bnext bw bu
  clear bu bu1 bu2 bu3 bu4 bu5 bu6 Z0
  have Z1 := Lib.hid (And.intro y0 bw)
  clear y0 bw
  gi_upto_region 10 with fail
  have hfn : ∀ (lb : Array Value) (w : World), (binOp .eql 50 (.func (.func 53) #[] lb) .nilFunc).run Tryz.prog w = .ok (.bool false) w := fun _ _ => rfl
  generalize hv3 : ((u6.alloc (.cells #[.int .i64 2, .int .i64 0, .int .u32 168099840, .int .u32 4294901760, .int .u32 0, .int .u32 3] 57)).alloc (.cells #[.int .i64 1, .int .i64 0, .int .u32 168230912, .int .u32 4294901760, .int .u32 0, .int .u32 1] 57)).alloc (.cells #[.int .i64 2, .int .i64 0, .int .u32 168165376, .int .u32 4294901760, .int .u32 0, .int .u32 16] 57) = v3
  have bv3 : Below u6.heap.size u6 v3 := by rw [← hv3]; exact balloc (balloc (balloc (Below.refl _ _) _) _) _
  have sv3 : v3.heap.size = u6.heap.size + 1 + 1 + 1 := by rw [← hv3]; simp
  have k1 : Blk v3 u6.heap.size 57 #[.int .i64 2, .int .i64 0, .int .u32 168099840, .int .u32 4294901760, .int .u32 0, .int .u32 3] := by rw [← hv3]; exact ((Blk.new _ _ _).alloc _).alloc _
  have k2 : Blk v3 (u6.heap.size + 1) 57 #[.int .i64 1, .int .i64 0, .int .u32 168230912, .int .u32 4294901760, .int .u32 0, .int .u32 1] := by
    rw [← hv3]
    have := (Blk.new (u6.alloc (.cells #[.int .i64 2, .int .i64 0, .int .u32 168099840, .int .u32 4294901760, .int .u32 0, .int .u32 3] 57)) 57 #[.int .i64 1, .int .i64 0, .int .u32 168230912, .int .u32 4294901760, .int .u32 0, .int .u32 1]).alloc (.cells #[.int .i64 2, .int .i64 0, .int .u32 168165376, .int .u32 4294901760, .int .u32 0, .int .u32 16] 57)
    rwa [World.size_alloc] at this
  have k3 : Blk v3 (u6.heap.size + 1 + 1) 57 #[.int .i64 2, .int .i64 0, .int .u32 168165376, .int .u32 4294901760, .int .u32 0, .int .u32 16] := by
    rw [← hv3]
    have := Blk.new ((u6.alloc (.cells #[.int .i64 2, .int .i64 0, .int .u32 168099840, .int .u32 4294901760, .int .u32 0, .int .u32 3] 57)).alloc (.cells #[.int .i64 1, .int .i64 0, .int .u32 168230912, .int .u32 4294901760, .int .u32 0, .int .u32 1] 57)) 57 #[.int .i64 2, .int .i64 0, .int .u32 168165376, .int .u32 4294901760, .int .u32 0, .int .u32 16]
    rwa [World.size_alloc, World.size_alloc] at this
  have p0 := (k1).cell 0
  have p1 := (k1).cell 1
  have p2 := (k1).cell 2
  have p3 := (k1).cell 3
  have p4 := (k1).cell 4
  have p5 := (k1).cell 5
  simp only [List.getElem?_toArray, List.getElem?_cons_zero, List.getElem?_cons_succ] at p0 p1 p2 p3 p4 p5
  have q0 := (k2).cell 0
  have q1 := (k2).cell 1
  have q2 := (k2).cell 2
  have q3 := (k2).cell 3
  have q4 := (k2).cell 4
  have q5 := (k2).cell 5
  simp only [List.getElem?_toArray, List.getElem?_cons_zero, List.getElem?_cons_succ] at q0 q1 q2 q3 q4 q5
  have r0 := (k3).cell 0
  have r1 := (k3).cell 1
  have r2 := (k3).cell 2
  have r3 := (k3).cell 3
  have r4 := (k3).cell 4
  have r5 := (k3).cell 5
  simp only [List.getElem?_toArray, List.getElem?_cons_zero, List.getElem?_cons_succ] at r0 r1 r2 r3 r4 r5
  clear hv3 k1 k2 k3
  have hr : Rd ((v3.alloc (.cells #[.int .i64 2, .int .i64 0, .int .u32 168099840, .int .u32 4294901760, .int .u32 0, .int .u32 3, .int .i64 1, .int .i64 0, .int .u32 168230912, .int .u32 4294901760, .int .u32 0, .int .u32 1, .int .i64 2, .int .i64 0, .int .u32 168165376, .int .u32 4294901760, .int .u32 0, .int .u32 16] 57)).alloc (.cells #[.int .i64 2, .slice (some ⟨v3.heap.size, 0, none⟩) 3 3] 35)) ((v3.alloc (.cells #[.int .i64 2, .int .i64 0, .int .u32 168099840, .int .u32 4294901760, .int .u32 0, .int .u32 3, .int .i64 1, .int .i64 0, .int .u32 168230912, .int .u32 4294901760, .int .u32 0, .int .u32 1, .int .i64 2, .int .i64 0, .int .u32 168165376, .int .u32 4294901760, .int .u32 0, .int .u32 16] 57)).alloc (.cells #[.int .i64 2, .slice (some ⟨v3.heap.size, 0, none⟩) 3 3] 35)).heap.size (some ⟨v3.heap.size, 0, none⟩) (erC es16) := ((Rd.newL v3 57 #[.int .i64 2, .int .i64 0, .int .u32 168099840, .int .u32 4294901760, .int .u32 0, .int .u32 3, .int .i64 1, .int .i64 0, .int .u32 168230912, .int .u32 4294901760, .int .u32 0, .int .u32 1, .int .i64 2, .int .i64 0, .int .u32 168165376, .int .u32 4294901760, .int .u32 0, .int .u32 16] (erC es16) rfl).alloc (by simp) (.cells #[.int .i64 2, .slice (some ⟨v3.heap.size, 0, none⟩) 3 3] 35)).more (by simp)
  have yd := Blk.new (v3.alloc (.cells #[.int .i64 2, .int .i64 0, .int .u32 168099840, .int .u32 4294901760, .int .u32 0, .int .u32 3, .int .i64 1, .int .i64 0, .int .u32 168230912, .int .u32 4294901760, .int .u32 0, .int .u32 1, .int .i64 2, .int .i64 0, .int .u32 168165376, .int .u32 4294901760, .int .u32 0, .int .u32 16] 57)) 35 #[.int .i64 2, .slice (some ⟨v3.heap.size, 0, none⟩) 3 3]
  have bv5 := balloc (balloc bv3 (.cells #[.int .i64 2, .int .i64 0, .int .u32 168099840, .int .u32 4294901760, .int .u32 0, .int .u32 3, .int .i64 1, .int .i64 0, .int .u32 168230912, .int .u32 4294901760, .int .u32 0, .int .u32 1, .int .i64 2, .int .i64 0, .int .u32 168165376, .int .u32 4294901760, .int .u32 0, .int .u32 16] 57)) (.cells #[.int .i64 2, .slice (some ⟨v3.heap.size, 0, none⟩) 3 3] 35)
  rw [World.size_alloc] at yd
  have ZZ := Lib.hid (And.intro hr (And.intro yd bv5))
  clear hr yd bv5 bv3
  gi_upto_region 11 with fail
  rw [← sv3]
  generalize (v3.alloc (.cells #[.int .i64 2, .int .i64 0, .int .u32 168099840, .int .u32 4294901760, .int .u32 0, .int .u32 3, .int .i64 1, .int .i64 0, .int .u32 168230912, .int .u32 4294901760, .int .u32 0, .int .u32 1, .int .i64 2, .int .i64 0, .int .u32 168165376, .int .u32 4294901760, .int .u32 0, .int .u32 16] 57)).alloc (.cells #[.int .i64 2, .slice (some ⟨v3.heap.size, 0, none⟩) 3 3] 35) = v5 at *
  generalize v3.heap.size = s3 at *
  clear sv3
  obtain ⟨hr, yd, bv5⟩ := ZZ.out
  obtain ⟨y0, bw⟩ := Z1.out
  replace y0 := boxed_below y0 bv5 y0.lt
  replace bw := bnext bw bv5
  have HC := Lib.hid (tells_c _ v5 hr)
  clear p0 p1 p2 p3 p4 p5 q0 q1 q2 q3 q4 q5 r0 r1 r2 r3 r4 r5
  have d0 := (yd).cell 0
  have d1 := (yd).cell 1
  simp only [List.getElem?_toArray, List.getElem?_cons_zero, List.getElem?_cons_succ] at d0 d1
  have Z2 := Lib.hid (And.intro y0 (And.intro hr (And.intro yd bw)))
  clear ZZ Z1 hr yd bv5 y0 bw
  gi_wp2_with fail
  refine ⟨trivial, ?_⟩
  refine (callsIn_wide.2 HC.out).mono ?_
  rintro e v6 ⟨⟨A4, c4, rfl, ha4, hc4, hr4⟩, b6⟩
  obtain ⟨y0, hr, yd, bw⟩ := Z2.out
  replace y0 := boxed_below y0 b6 y0.lt
  replace hr := (hr.below b6).more b6.size
  replace yd := yd.below b6 yd.lt
  replace bw := bnext bw b6
  have HC2 := Lib.hid (left_c _ v6 hr)
  clear d0 d1
  have d0 := (yd).cell 0
  have d1 := (yd).cell 1
  simp only [List.getElem?_toArray, List.getElem?_cons_zero, List.getElem?_cons_succ] at d0 d1
  have Z3 := Lib.hid (And.intro y0 (And.intro hr4 bw))
  clear Z2 hr yd b6 y0 bw HC hr4
  gi_wp2_with fail
  refine ⟨trivial, ?_⟩
  refine (callsIn_wide.2 HC2.out).mono ?_
  rintro e v7 ⟨lb, rfl, hlb, b7⟩
  obtain ⟨y0, hr4, bw⟩ := Z3.out
  replace y0 := boxed_below y0 b7 y0.lt
  replace hr4 := (hr4.below b7).more b7.size
  replace bw := bnext bw b7
  have Z4 := Lib.hid (And.intro y0 (And.intro hr4 (And.intro hlb bw)))
  clear Z3 y0 hr4 hlb bw b7 d0 d1 HC2
  gi_wp2_with fail
  refine ⟨trivial, ?_⟩
  refine (callsIn_wide.2 (N5.out _)).mono ?_
  rintro e v8 ⟨rfl, b8⟩
  gi_wp2_with fail
  refine ⟨trivial, ?_⟩
  refine (callsIn_wide.2 (N6.out _)).mono ?_
  rintro e v9 ⟨rfl, b9⟩
  obtain ⟨y0, hr4, hlb, bw⟩ := Z4.out
  have bb := balloc (bnext b8 b9) (.cells #[.int .u32 168099840, .int .i64 16, .int .i64 3, .int .u32 168165376, .int .i64 16, .int .i64 16] 93)
  have hrT := (Rd.newL v9 93 #[.int .u32 168099840, .int .i64 16, .int .i64 3, .int .u32 168165376, .int .i64 16, .int .i64 16] (tlC ts16) rfl)
  replace y0 := boxed_below y0 bb y0.lt
  replace hlb := hlb.below bb
  replace bw := bnext bw bb
  have HC := Lib.hid (told_any16 ts16 ts16 2 2 c4 2 _ _ rfl rfl A4 (some ⟨v9.heap.size, 0, none⟩) _ (hr4.below bb) hrT (by omega))
  rw [decide_eq_true rfl] at HC
  have Z5 := Lib.hid (And.intro y0 (And.intro hlb bw))
  clear Z4 y0 hr4 hlb bw b8 b9 bb hrT
  gi_wp2_with fail
  refine ⟨trivial, ?_⟩
  refine (callsIn_wide.2 HC.out).mono ?_
  rintro e v10 ⟨rfl, nq, rfl⟩
  gi_upto_region 16 with fail
  obtain ⟨y0, hlb, bw⟩ := Z5.out
  have hd := below_drewN (Below.refl (v9.alloc (.cells #[.int .u32 168099840, .int .i64 16, .int .i64 3, .int .u32 168165376, .int .i64 16, .int .i64 16] 93)).heap.size (v9.alloc (.cells #[.int .u32 168099840, .int .i64 16, .int .i64 3, .int .u32 168165376, .int .i64 16, .int .i64 16] 93))) nq
  replace y0 := boxed_below y0 hd y0.lt
  replace hlb := hlb.below hd
  replace bw := bnext bw hd
  have sW : ((v9.alloc (.cells #[.int .u32 168099840, .int .i64 16, .int .i64 3, .int .u32 168165376, .int .i64 16, .int .i64 16] 93)).drewN nq).heap.size = v9.heap.size + 1 := by simp
  clear Z5 hd HC
  generalize (v9.alloc (.cells #[.int .u32 168099840, .int .i64 16, .int .i64 3, .int .u32 168165376, .int .i64 16, .int .i64 16] 93)).drewN nq = W9 at *
  rw [← sW]
  clear sW
  have bn := Boxed.new W9 3 (.int .i64 0)
  have bl := balloc (Below.refl _ W9) (.cells #[.int .i64 0] 3)
  have hnl := bn.lt
  have yn := boxed_below y0 bl y0.lt
  have hyl := y0.lt
  generalize W9.alloc (.cells #[.int .i64 0] 3) = Wn at *
  have XX := Lib.hid (And.intro yn (And.intro hlb (And.intro bl bw)))
  have BNH := Lib.hid bn
  clear yn hlb bl bw y0 bn
  have HTN := Lib.hid (fun W => gnew_any W)
  have HNUM := Lib.hid (fun (k : Int) W => num_any k W)
  gi_wp2_with fail
  refine wpIn_rangeFunc_ownG rfl (by omega) (gf := 53) (lb := lb) rfl trivial (enters_of Tryz.func53 (by kernel_rfl) rfl)
    (lf_stops 5 (by omega) W9.heap.size [(1, 1)] lb Wn (by simp) W9 XX.out.2.1 XX.out.2.2.1 (Nat.le_refl _) (by omega)) belowK_t (belowK_b (by omega)) (Below.refl _ _) (fun _ => rfl)
    (RI Wn W9.heap.size (fun _ => True)) (RX Wn W9.heap.size 0 (fun _ => False)) (RI_own hnl (Nat.le_refl _)) (RX_own hnl (Nat.le_refl _)) ⟨⟨BNH.out, Below.refl _ _⟩, trivial⟩ ?a1 ?assign ?body ?done ?stop
  case assign =>
    intro lp x W K hK
    simp only [lfEs]
    gi_wp2
    exact hK
  case body =>
    rintro lp pre x W ⟨⟨hn, hbW⟩, -⟩ hlt
    try dsimp only
    have hp0 : pre = [] := List.eq_nil_of_length_eq_zero (by simpa using hlt)
    subst hp0
    have hn0 : Boxed W W9.heap.size 3 (.int .i64 0) := hn
    have y0 := boxed_below XX.out.1 hbW (by omega)
    have qn := hn0.cell
    have kn := hn0.frozen
    have q0 := y0.cell
    have k0 := y0.frozen
    obtain ⟨p1, hp1⟩ : ∃ p1, p1 = lfA [(1, 1)] x := ⟨_, rfl⟩
    obtain ⟨p2, hp2⟩ : ∃ p2, p2 = lfB [(1, 1)] x := ⟨_, rfl⟩
    rw [← hp1, ← hp2]
    by_cases hx : x = 0
    · subst hx
      have d1 : ((p1 : Int) != 1) = false := by rw [hp1]; rfl
      have d2 : ((p2 : Int) != 1) = false := by rw [hp2]; rfl
      have KF : KeepsFrom Wn.heap.size W (W.setCell ⟨W9.heap.size, 0, none⟩ (.int .i64 1)) := (KeepsOthers.setCell _ _ _).from _
      have KB : Below W9.heap.size W (W.setCell ⟨W9.heap.size, 0, none⟩ (.int .i64 1)) := (Below.refl W9.heap.size W).setCell (p := ⟨W9.heap.size, 0, none⟩) (Nat.le_refl _) _
      have HIN := Lib.hid (And.intro (hn0.set (.int .i64 1)) (hbW.trans KB))
      have KK := Lib.hid (And.intro KF KB)
      clear hp1 hp2 hn hbW hn0 y0 KF KB
      gi_wp2
      exact ⟨KK.out.1, KK.out.2, HIN.out, trivial⟩
    · have d1 : ((p1 : Int) != 1) = true := by
        rw [hp1]
        match x, hx with
        | x + 1, _ => simp [lfA, List.getD]
      clear hp1 hp2 hn hbW hn0 y0
      gi_wp2
      exact ⟨(KeepsOthers.setCell _ _ _).from _, .inl ⟨rfl, fun h => hx (range_last h).1⟩⟩
  case done =>
    rintro D0 ys Wm hD0 rfl ⟨⟨hn, hbW⟩, -⟩ hK0
    have hn1 : Boxed Wm W9.heap.size 3 (.int .i64 1) := hn
    have y0 := boxed_below XX.out.1 hbW (by omega)
    have bw := bnext XX.out.2.2.2 (XX.out.2.2.1.trans hbW)
    have hDl := (Array.getElem?_eq_some_iff.1 hK0).1
    have hWm := bw.size
    have T0 := Lib.hid (And.intro y0 (And.intro hn1 (And.intro bw hK0)))
    clear hn hn1 y0 bw hK0 hbW
    gi_wp2_with fail
    refine ⟨trivial, ?_⟩
    refine (callsIn_wide.2 (HTN.out _)).mono ?_
    rintro e x1 ⟨gt, rfl, hgt, ta, b1⟩
    obtain ⟨y0, hn, bw, kd⟩ := T0.out
    have hnl0 := hn.lt
    replace y0 := boxed_below y0 b1 y0.lt
    replace hn := boxed_below hn b1 hn.lt
    replace bw := bnext bw b1
    replace kd := (b1.block D0 hDl).trans kd
    have T1 := Lib.hid (And.intro y0 (And.intro hn (And.intro ta (And.intro bw kd))))
    have HC := Lib.hid (refuse_any 192 ta)
    rw [w16_t.1] at HC
    have hg1 : D0 < gt := by omega
    have hg2 : W9.heap.size < gt := by omega
    have hg3 : w.heap.size < gt := by omega
    clear T0 y0 hn ta bw kd b1
    gi_wp2_with fail
    refine ⟨trivial, ?_⟩
    refine (callsIn_wide.2 HC.out).mono ?_
    rintro e x2 ⟨rfl, ta, f2⟩
    replace ta : Ta x2 gt l1_16 := ta
    have HC2 := Lib.hid (refuse_any 200 ta)
    rw [w16_t.2.1, w16_t.2.2.2.1] at HC2
    obtain ⟨y0, hn, -, bw, kd⟩ := T1.out
    have ln := hn.lt
    have ld := (Array.getElem?_eq_some_iff.1 kd).1
    have l0 := y0.lt
    replace y0 : Boxed x2 w.heap.size 4 (.bool false) := (f2.2.2.2.2 w.heap.size (by omega) l0).trans y0
    replace hn : Boxed x2 W9.heap.size 3 (.int .i64 1) := (f2.2.2.2.2 W9.heap.size (by omega) ln).trans hn
    replace kd := (f2.2.2.2.2 D0 (by omega) ld).trans kd
    replace bw := bw.trans (f2.below bw.size (fun b hb => by omega))
    have T2 := Lib.hid (And.intro y0 (And.intro hn (And.intro ta (And.intro bw kd))))
    clear T1 y0 hn bw kd f2 ta ln ld l0
    gi_wp2_with fail
    refine ⟨trivial, ?_⟩
    refine (callsIn_wide.2 HC2.out).mono ?_
    rintro e x3 ⟨rfl, ta, f3⟩
    have HC3 := Lib.hid (leave_any 2 2 ta)
    rw [w16_t.2.2.1] at HC3
    obtain ⟨y0, hn, -, bw, kd⟩ := T2.out
    have ln := hn.lt
    have ld := (Array.getElem?_eq_some_iff.1 kd).1
    have l0 := y0.lt
    replace y0 : Boxed x3 w.heap.size 4 (.bool false) := (f3.2.2.2.2 w.heap.size (by omega) l0).trans y0
    replace hn : Boxed x3 W9.heap.size 3 (.int .i64 1) := (f3.2.2.2.2 W9.heap.size (by omega) ln).trans hn
    replace kd := (f3.2.2.2.2 D0 (by omega) ld).trans kd
    replace bw := bw.trans (f3.below bw.size (fun b hb => by omega))
    have T3 := Lib.hid (And.intro y0 (And.intro hn (And.intro ta (And.intro bw kd))))
    clear T2 y0 hn bw kd f3 ta ln ld l0
    gi_wp2_with fail
    refine ⟨trivial, ?_⟩
    refine (callsIn_wide.2 HC3.out).mono ?_
    rintro e x4 ⟨rfl, ta, f4⟩
    replace ta : Ta x4 gt l2_16 := ta
    have HC4 := Lib.hid (refused_any 192 ta)
    rw [w16_t.2.2.2.2.1] at HC4
    obtain ⟨y0, hn, -, bw, kd⟩ := T3.out
    have ln := hn.lt
    have ld := (Array.getElem?_eq_some_iff.1 kd).1
    have l0 := y0.lt
    replace y0 : Boxed x4 w.heap.size 4 (.bool false) := (f4.2.2.2.2 w.heap.size (by omega) l0).trans y0
    replace hn : Boxed x4 W9.heap.size 3 (.int .i64 1) := (f4.2.2.2.2 W9.heap.size (by omega) ln).trans hn
    replace kd := (f4.2.2.2.2 D0 (by omega) ld).trans kd
    replace bw := bw.trans (f4.below bw.size (fun b hb => by omega))
    have T4 := Lib.hid (And.intro y0 (And.intro hn (And.intro ta (And.intro bw kd))))
    clear T3 y0 hn bw kd f4 ta ln ld l0
    obtain ⟨y0, hn, ta, bw, kd⟩ := T4.out
    have qn := hn.cell
    clear y0 hn ta bw kd
    gi_wp2_with (refine ⟨trivial, ?_⟩; gi_at_call 13; refine (callsIn_wide.2 (HNUM.out _ _)).mono ?_; rintro e w' ⟨rfl, rfl⟩)
    refine ⟨trivial, ?_⟩
    refine (callsIn_wide.2 HC4.out).mono ?_
    rintro e x5 ⟨rfl, b5⟩
    clear qn
    obtain ⟨y0, hn, ta, bw, kd⟩ := T4.out
    replace y0 := boxed_below y0 b5 y0.lt
    replace hn := boxed_below hn b5 hn.lt
    replace ta := ta.below b5
    replace bw := bnext bw b5
    replace kd := (b5.block D0 (Array.getElem?_eq_some_iff.1 kd).1).trans kd
    have T5 := Lib.hid (And.intro y0 (And.intro hn (And.intro ta (And.intro bw kd))))
    clear T4 y0 hn ta bw kd b5
    obtain ⟨y0, hn, ta, bw, kd⟩ := T5.out
    have HC5 := Lib.hid (leftout_any 2 ta)
    rw [w16_t.2.2.2.2.2] at HC5
    clear y0 hn ta bw kd
    gi_wp2_with fail
    refine ⟨trivial, ?_⟩
    refine (callsIn_wide.2 HC5.out).mono ?_
    rintro e x6 ⟨rfl, b6⟩
    obtain ⟨y0, hn, ta, bw, kd⟩ := T5.out
    replace y0 := boxed_below y0 b6 y0.lt
    replace hn := boxed_below hn b6 hn.lt
    replace ta := ta.below b6
    replace bw := bnext bw b6
    replace kd := (b6.block D0 (Array.getElem?_eq_some_iff.1 kd).1).trans kd
    have T6 := Lib.hid (And.intro y0 (And.intro hn (And.intro ta (And.intro bw kd))))
    clear T5 y0 hn ta bw kd b6
    obtain ⟨y0, hn, ta, bw, kd⟩ := T6.out
    have q9 := y0.cell
    have k9 := y0.frozen
    have K0 := (KeepsOthers.setCell x6 ⟨w.heap.size, 0, none⟩ (.bool true)).same D0 _ kd rfl
    have r9 := (y0.set (.bool true)).cell
    have b10 : Below w.heap.size w (x6.setCell ⟨w.heap.size, 0, none⟩ (.bool true)) := bw.setCell (p := ⟨w.heap.size, 0, none⟩) (Nat.le_refl _) _
    clear hn ta bw kd y0
    gi_wp2_with fail
    generalize x6.setCell ⟨w.heap.size, 0, none⟩ (.bool true) = wz at *
    have r10 := cell_kept r9 (grownBy_putObj' wz D0 (.deferred none)) (fun r e => by cases e; exact ⟨_, K0, rfl⟩)
    refine ⟨by simp, .inl ⟨_, _, rfl, run_takeDeferred K0, ?_⟩⟩
    refine ⟨.bool true, by simp [results, Tryz.f9, go_sem, r10], rfl, ?_⟩
    exact b10.trans (belowK_b (w := w) (Nat.le_refl _) _ D0 _ _ (by omega) K0 rfl rfl)
  case stop =>
    rintro D0 cc pre Wm hD0 ⟨jj, hjj, rfl⟩ hX hK0
    rcases hX with ⟨_, h⟩ | ⟨_, _, hp⟩
    · exact (h (by simp)).elim
    · exact hp.elim
end Go.Proofs.YtlanfceilajifaaGreatDoor
