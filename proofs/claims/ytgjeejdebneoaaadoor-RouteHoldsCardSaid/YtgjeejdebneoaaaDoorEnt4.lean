/- entry: Name, All; the references of Of and Prefix. -/
import Derived.Test.YtgjeejdebneoaaaDoorEnt3
namespace Go.Proofs.YtgjeejdebneoaaaDoor
set_option linter.unusedVariables false
set_option linter.unusedSimpArgs false
open Go.RowKit
set_option maxRecDepth 100000

/-- a reason's name -/
def nameF (r : Int) : ByteArray :=
  if r = 0 then ⟨#[102, 105, 110, 101]⟩ else if r = 1 then ⟨#[102, 97, 109, 105, 108, 121]⟩ else if r = 2 then ⟨#[109, 97, 115, 107]⟩ else if r = 3 then ⟨#[98, 105, 116, 115]⟩ else if r = 4 then ⟨#[107, 105, 110, 100]⟩ else if r = 5 then ⟨#[110, 101, 120, 116]⟩ else if r = 6 then ⟨#[109, 101, 116, 114, 105, 99]⟩ else ⟨#[]⟩

set_option maxHeartbeats 1000000 in
theorem refGood_any (a : Nat) (n : Int) (w : World) (ha : a < 4294967296) :
    Calls Tryd.prog 21 #[.agg #[.int .u32 a, .int .i64 n]] w fun e w' => e = .returned (.bool (okP (a, n) && !kindBad a (maskF n.toNat))) ∧ Below w.heap.size w w' := by
  have hR := fun W => refRight_any a n W ha
  have hp : okP (a, n) = true → 0 ≤ n ∧ n ≤ 32 := fun h => by
    have := of_decide_eq_true h
    exact ⟨this.1, this.2.1⟩
  have hB := fun W => refBad_any a (maskF n.toNat) W ha (maskF_lt _)
  have hE := Blk.new w 28 #[.int .u32 a, .int .i64 n]
  have hM : 0 ≤ n → n ≤ 32 → ∀ W, Calls Tryd.prog 46 #[.int .i64 n] W fun e w' => e = .returned (.int .u32 (maskF n.toNat)) ∧ W = w' := fun h1 h2 W => refMask_any n W h1 h2
  generalize okP (a, n) = ok at *
  generalize kindBad a (maskF n.toNat) = kb at *
  generalize maskF n.toNat = mk at *
  have e0 : ∀ v : Sub (w.alloc (.cells #[.int .u32 a, .int .i64 n] 28)), v.1.cell? ⟨w.heap.size, 0, none⟩ = some (.int .u32 a) := fun v => (hE.below v.2 (by simp)).cell 0
  have e1 : ∀ v : Sub (w.alloc (.cells #[.int .u32 a, .int .i64 n] 28)), v.1.cell? ⟨w.heap.size, 1, none⟩ = some (.int .i64 n) := fun v => (hE.below v.2 (by simp)).cell 1
  have hne : Nonempty (Sub (w.alloc (.cells #[.int .u32 a, .int .i64 n] 28))) := ⟨⟨_, Below.refl _ _⟩⟩
  have HR := Lib.hid hR
  have HB := Lib.hid hB
  have HM := Lib.hid hM
  have HP := Lib.hid hp
  clear hR hB hM hp hE
  cases ok
  · go_enter Tryd.func21, Tryd.ntmps21
    go_wp2_with fail
    refine region_sub (by kernel_rfl) (by kernel_rfl) ?_
    repeat (first
      | go_big_quiet_step ((go_at_call 44; exact sub_below (HR.out _)))
      | quiet_step ((go_at_call 44; exact sub_below (HR.out _))))
    refine wpQuiet_nil ?_
    rintro _ ⟨v, rfl⟩
    go_wp2_with fail
    go_ret
    exact ⟨rfl, bnext (balloc (Below.refl _ _) _) v.2⟩
  · obtain ⟨hn0, hn1⟩ := HP.out rfl
    have HM2 := Lib.hid (HM.out hn0 hn1)
    go_enter Tryd.func21, Tryd.ntmps21
    go_wp2_with fail
    refine region_sub (by kernel_rfl) (by kernel_rfl) ?_
    repeat (first
      | go_big_quiet_step ((first | (go_at_call 44; exact sub_below (HR.out _)) | (go_at_call 46; exact sub_same (HM2.out _)) | (go_at_call 45; exact sub_below (HB.out _))))
      | quiet_step ((first | (go_at_call 44; exact sub_below (HR.out _)) | (go_at_call 46; exact sub_same (HM2.out _)) | (go_at_call 45; exact sub_below (HB.out _)))))
    refine wpQuiet_nil ?_
    rintro _ ⟨v, rfl⟩
    go_wp2_with fail
    go_ret
    exact ⟨ret_bool (by simp), bnext (balloc (Below.refl _ _) _) v.2⟩

end Go.Proofs.YtgjeejdebneoaaaDoor
