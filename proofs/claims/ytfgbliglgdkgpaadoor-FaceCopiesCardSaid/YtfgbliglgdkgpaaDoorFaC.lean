/- face: the chapter's rows. -/
import Derived.Test.YtfgbliglgdkgpaaDoorFaB
import Derived.Test.YtfgbliglgdkgpaaDoorNum
namespace Go.Proofs.YtfgbliglgdkgpaaDoor
set_option linter.unusedVariables false
set_option linter.unusedSimpArgs false
open Go.RowKit
set_option maxRecDepth 100000
theorem of9_any (net : Int) (n a : Int) (w : World) : Calls Tryd.prog 31 #[.int .u32 net, .int .i64 n, .int .u32 a] w fun e w' => e = .returned (.agg #[.int .u32 net, .int .i64 n, .int .u32 a, .bool true]) ∧ Below w.heap.size w w' := by
  go_enter Tryd.func31, Tryd.ntmps31
  go_wp2
  refine bodyPost_ret (v := .agg #[.int .u32 net, .int .i64 n, .int .u32 a, .bool true]) (by simp [results, Tryd.results31, go_sem]) rfl ⟨rfl, by go_grown⟩
theorem Gz.below {w w' : World} {n0 g : Nat} {v : Value} {l : List Fc} (h : Fs w n0 g v l) (hz : Gz w w' v) (hB : n0 ≤ w.heap.size) : Below n0 w w' :=
  Fr.below hz hB (fun b hb e => by have := own_base' h.own b e; omega)
def f0 : Fc := ⟨167772416, 30, 167772417, true⟩
def f1 : Fc := ⟨167772416, 30, 167772417, false⟩
theorem w_new : newE [f0] = 0 := by decide +kernel
theorem w_a : fromE [f0] 0 167772418 = 0 := by decide +kernel
theorem w_b : fromE [f0] 0 167772417 = 191 := by decide +kernel
theorem w_c : fromE [f0] 0 167772419 = 192 := by decide +kernel
theorem w_d : fromE [f0] 0 167772674 = 192 := by decide +kernel
theorem w_to : firstF (toP 167772419) [f0] = 0 ∧ [f0].any (toP 167772419) = true := by decide +kernel
theorem w_set : setL [f0] 0 false = [f1] ∧ (getF [f0] 0).up = true ∧ getE [f0] 0 = 0 := by decide +kernel
theorem w_g : fromE [f1] 0 167772418 = 190 := by decide +kernel
theorem w_to2 : firstF (toP 167772418) [f1] = 0 ∧ [f1].any (toP 167772418) = false := by decide +kernel
theorem w_h : fromE [f1] 1 167772418 = 4 := by decide +kernel
theorem w_k : okF ⟨167772416, 30, 167772416, true⟩ = false := by decide +kernel
theorem w_m : okF ⟨167772416, 31, 167772417, true⟩ = false := by decide +kernel
set_option maxHeartbeats 8000000 in
theorem works9_any (w : World) (hR : RelsAt w) : Calls Tryd.prog 8 #[] w fun e w' => e = .returned (.bool true) ∧ Below w.heap.size w w' := by
  have HR := Lib.hid hR
  clear hR
  go_enter Tryd.func8, Tryd.ntmps8
  go_wp2_with fail
  refine (of9_any _ _ _ _).mono ?_
  rintro e w1 ⟨rfl, b1⟩
  have HL : Ls (w1.alloc (.cells (fcA f0) 35)) (w1.heap.size + 1) (some ⟨w1.heap.size, 0, none⟩) 1 1 [f0] := ⟨rfl, ⟨Nat.le_refl _, by omega⟩, Rd.newL w1 35 (fcA f0) (fcC [f0]) rfl, fun f hf => by
    obtain rfl : f = f0 := by simpa using hf
    exact ⟨by decide, by decide⟩⟩
  have HNW := Lib.hid (new_any [f0] 1 1 (w1.heap.size + 1) _ _ HL (by simp) (HR.out.below (balloc b1 _)) (by omega))
  have b1' := balloc b1 (.cells (fcA f0) 35)
  clear HL
  simp only [fcA, f0] at HNW b1'
  go_wp2_with fail
  refine HNW.out.mono ?_
  rintro e w2 ⟨(⟨_, g, v, rfl, hF⟩ | ⟨hno, _⟩), b2⟩
  case inr => exact (hno w_new).elim
  have c2 := bnext b1' b2
  replace hF : Fs w2 w.heap.size g v [f0] := ⟨hF.blk, own_keep hF.own (b1'.size) (fun _ _ _ => rfl), Nat.le_trans b1'.size hF.ge, hF.len, hF.fit, hF.apart⟩
  clear HNW b1 b1' b2
  have HA : Hid (Calls _ _ _ _ _) := Lib.hid (from_any 0 167772418 (by omega) hF)
  rw [w_a] at HA
  go_wp2_with fail
  refine HA.out.mono ?_
  rintro e w3 ⟨rfl, b3⟩
  have hF3 := hF.below b3
  have c3 := bnext c2 b3
  clear HA hF c2 b3
  have HA := Lib.hid (from_any 0 167772417 (by omega) hF3)
  rw [w_b] at HA
  go_wp2_with fail
  refine HA.out.mono ?_
  rintro e w4 ⟨rfl, b4⟩
  have hF4 := hF3.below b4
  have c4 := bnext c3 b4
  clear HA hF3 c3 b4
  have HA := Lib.hid (from_any 0 167772419 (by omega) hF4)
  rw [w_c] at HA
  go_wp2_with fail
  refine HA.out.mono ?_
  rintro e w5 ⟨rfl, b5⟩
  have hF5 := hF4.below b5
  have c5 := bnext c4 b5
  clear HA hF4 c4 b5
  have HA := Lib.hid (from_any 0 167772674 (by omega) hF5)
  rw [w_d] at HA
  go_wp2_with fail
  refine HA.out.mono ?_
  rintro e w6 ⟨rfl, b6⟩
  have hF6 := hF5.below b6
  have c6 := bnext c5 b6
  clear HA hF5 c5 b6
  have HA := Lib.hid (to_any 167772419 (by omega) hF6)
  rw [w_to.1, w_to.2] at HA
  go_wp2_with fail
  refine HA.out.mono ?_
  rintro e w7 ⟨rfl, b7⟩
  have hF7 := hF6.below b7
  have c7 := bnext c6 b7
  clear HA hF6 c6 b7
  have HA := Lib.hid (set_any 0 false hF7)
  rw [w_set.1, w_set.2.1, w_set.2.2] at HA
  go_wp2_with fail
  refine HA.out.mono ?_
  rintro e w8 ⟨rfl, hF8, hz⟩
  have c8 := c7.trans (hz.below hF7 c7.size)
  clear HA hF7 c7 hz
  have HA := Lib.hid (from_any 0 167772418 (by omega) hF8)
  rw [w_g] at HA
  go_wp2_with fail
  refine HA.out.mono ?_
  rintro e w9 ⟨rfl, b9⟩
  have hF9 := hF8.below b9
  have c9 := bnext c8 b9
  clear HA hF8 c8 b9
  have HA := Lib.hid (to_any 167772418 (by omega) hF9)
  rw [w_to2.1, w_to2.2] at HA
  go_wp2_with fail
  refine HA.out.mono ?_
  rintro e w10 ⟨rfl, b10⟩
  have hFa := hF9.below b10
  have c10 := bnext c9 b10
  clear HA hF9 c9 b10
  have HA := Lib.hid (from_any 1 167772418 (by omega) hFa)
  rw [w_h] at HA
  have HK := Lib.hid (fun W => fcheck_any 167772416 30 167772416 true W (by omega) (by omega))
  rw [w_k] at HK
  have HM := Lib.hid (fun W => fcheck_any 167772416 31 167772417 true W (by omega) (by omega))
  rw [w_m] at HM
  simp only [Bool.false_eq_true, if_false] at HK HM
  clear hFa
  go_wp2_with (go_at_call 10; refine (num_any _ _).mono ?_; rintro e w' ⟨rfl, rfl⟩)
  refine HA.out.mono ?_
  rintro e w11 ⟨rfl, b11⟩
  go_wp2_with (go_at_call 10; refine (num_any _ _).mono ?_; rintro e w' ⟨rfl, rfl⟩)
  refine (of9_any _ _ _ _).mono ?_
  rintro e w12 ⟨rfl, b12⟩
  go_wp2_with fail
  refine (HK.out _).mono ?_
  rintro e w13 ⟨rfl, b13⟩
  go_wp2_with (go_at_call 10; refine (num_any _ _).mono ?_; rintro e w' ⟨rfl, rfl⟩)
  refine (of9_any _ _ _ _).mono ?_
  rintro e w14 ⟨rfl, b14⟩
  go_wp2_with fail
  refine (HM.out _).mono ?_
  rintro e w15 ⟨rfl, b15⟩
  go_wp2_with (go_at_call 10; refine (num_any _ _).mono ?_; rintro e w' ⟨rfl, rfl⟩)
  go_ret
  exact ⟨rfl, bnext (bnext (bnext (bnext (bnext c10 b11) b12) b13) b14) b15⟩
end Go.Proofs.YtfgbliglgdkgpaaDoor
