/- The document's reader: Take, Skip. -/
import Derived.Test.YtonjaoabehkecaaDoorRdr2
namespace Go.Proofs.YtonjaoabehkecaaDoor
set_option linter.unusedVariables false
set_option linter.unusedSimpArgs false
open Go.RowKit
set_option maxRecDepth 100000

set_option maxHeartbeats 1000000 in
theorem rtake_any (l : List UInt8) (A : Option Addr) (c p : Nat) (k : Int) (w : World) (h : Rd w w.heap.size A (l.map b8)) (hlc : l.length ≤ c) (hcm : c ≤ 9223372036854775807) (hp : p ≤ l.length) :
    Calls Tryd.prog 18 #[.agg #[.slice A l.length c, .int .i64 p], .int .i64 k] w fun e w' => e = .returned (.tuple #[.agg #[.slice A l.length c, .int .i64 (tookP l p k)], .int .u32 (rdF l p k).1, .int .i64 (rdF l p k).2]) ∧ Below w.heap.size w w' := by
  have hr := (h.alloc (Nat.le_refl _) (.cells #[.slice A l.length c, .int .i64 p] 48)).alloc (by simp) (.cells #[.slice none 0 0, .int .i64 0] 48)
  have hrd := refRead_any l l.length rfl A c w.heap.size _ hr hlc hcm p k
  unfold GivesN at hrd
  have HT := Lib.hid (show tookP l p k = if (rdF l p k).2 = 0 then p + k.toNat else p from rfl)
  have HK := rdF_ok l p k
  rcases rdF_cases l p k with he | ⟨he, hv⟩
  · obtain ⟨hk1, hk2, hk3⟩ := HK he
    have HE := Lib.hid he
    generalize rdF l p k = r at *
    obtain ⟨v, er⟩ := r
    simp only at he HE hrd
    subst he
    have CR := Lib.hid hrd
    have HP := Lib.hid (show ((p + k.toNat : Nat) : Int) = p + k by omega)
    have hpk : (p : Int) + k ≤ 9223372036854775807 := by omega
    clear hrd HK hr h
    go_enter Tryd.func18, Tryd.ntmps18
    go_wp2_with fail
    refine CR.out.mono ?_
    rintro e w' ⟨rfl, rfl⟩
    go_wp2_with fail
    refine bodyPost_ret (v := .tuple #[.agg #[.slice A l.length c, .int .i64 (p + k)], .int .u32 v, .int .i64 0]) (by simp [results, Tryd.results18, go_sem]) rfl ⟨?_, ?_⟩
    · rw [HT.out, if_pos trivial, HP.out]
    · exact balloc (balloc (Below.refl _ _) _) _
  · generalize rdF l p k = r at *
    obtain ⟨v, er⟩ := r
    simp only at he hv hrd
    subst hv
    have he2 : (er != 0) = true := by simpa using he
    have HE := Lib.hid he
    have CR := Lib.hid hrd
    clear hrd HK he hr h
    go_enter Tryd.func18, Tryd.ntmps18
    go_wp2_with fail
    refine CR.out.mono ?_
    rintro e w' ⟨rfl, rfl⟩
    go_wp2_with fail
    refine bodyPost_ret (v := .tuple #[.agg #[.slice A l.length c, .int .i64 p], .int .u32 0, .int .i64 er]) (by simp [results, Tryd.results18, go_sem]) rfl ⟨?_, ?_⟩
    · rw [HT.out, if_neg HE.out]; rfl
    · exact balloc (balloc (Below.refl _ _) _) _

set_option maxHeartbeats 1000000 in
theorem rskip_any (l : List UInt8) (A : Option Addr) (c p : Nat) (k : Int) (w : World) (hlc : l.length ≤ c) (hcm : c ≤ 9223372036854775807) (hp : p ≤ l.length) (hk : k ≤ 9223372036854775807) :
    Calls Tryd.prog 19 #[.agg #[.slice A l.length c, .int .i64 p], .int .i64 k] w fun e w' => e = .returned (.tuple #[.agg #[.slice A l.length c, .int .i64 (skF l p k).1], .int .i64 (skF l p k).2]) ∧ Below w.heap.size w w' := by
  by_cases k0 : k < 0
  · have HS := Lib.hid (show skF l p k = (p, 4) by simp [skF, k0])
    go_enter Tryd.func19, Tryd.ntmps19
    go_wp2_with fail
    refine bodyPost_ret (v := .tuple #[.agg #[.slice A l.length c, .int .i64 p], .int .i64 4]) (by simp [results, Tryd.results19, go_sem]) rfl ⟨by rw [HS.out], ?_⟩
    exact balloc (balloc (Below.refl _ _) _) _
  by_cases k1 : (l.length : Int) - p < k
  · have HS := Lib.hid (show skF l p k = (p, 130) by simp [skF, k0, k1])
    go_enter Tryd.func19, Tryd.ntmps19
    go_wp2_with fail
    refine bodyPost_ret (v := .tuple #[.agg #[.slice A l.length c, .int .i64 p], .int .i64 130]) (by simp [results, Tryd.results19, go_sem]) rfl ⟨by rw [HS.out], ?_⟩
    exact balloc (balloc (Below.refl _ _) _) _
  · have HS := Lib.hid (show skF l p k = (p + k.toNat, 0) by simp [skF, k0, k1])
    have HP := Lib.hid (show ((p + k.toNat : Nat) : Int) = p + k by omega)
    go_enter Tryd.func19, Tryd.ntmps19
    go_wp2_with fail
    refine bodyPost_ret (v := .tuple #[.agg #[.slice A l.length c, .int .i64 (p + k)], .int .i64 0]) (by simp [results, Tryd.results19, go_sem]) rfl ⟨by rw [HS.out, HP.out], ?_⟩
    exact balloc (balloc (Below.refl _ _) _) _
end Go.Proofs.YtonjaoabehkecaaDoor
