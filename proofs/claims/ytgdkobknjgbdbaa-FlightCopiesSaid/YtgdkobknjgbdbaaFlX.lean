/- act: a call by both. -/
import Derived.Test.YtgdkobknjgbdbaaFlW
import Derived.Test.YtgdkobknjgbdbaaFlN
namespace Go.Proofs.Ytgdkobknjgbdbaa
set_option linter.unusedVariables false
set_option linter.unusedSimpArgs false
open Go.RowKit
set_option maxRecDepth 100000

/-- behind a call by both: they stand alike -/
def ActOk (w : World) (n0 g : Nat) (v : Value) (rs : List Ml) (room : Nat) (p : Nat → Prop) (e : Ending) (w' : World) : Prop :=
  ∃ g' v' rs' lost' A' n' c' ws', e = .returned (.tuple #[.pointer (some ⟨g', 0, none⟩), .agg #[.slice A' n' c', .int .i64 (room : Nat), .int .i64 (lost' : Nat)], .bool true]) ∧ Fl w' n0 g' v' rs' room lost' ∧ msL rs' = msL ws' ∧
    Want w' (fun b => (p b ∧ b < w.heap.size) ∨ (w.heap.size ≤ b ∧ Kp g' v' b)) A' n' c' ws' ∧ Fr (Kp g v) w w' ∧ (∀ b, b < w.heap.size → Kp g v b → Kp g' v' b) ∧ (∀ r ∈ rs', r ∈ rs ∨ ∀ a, r.A = some a → w.heap.size ≤ a.block)

set_option maxHeartbeats 2000000 in
theorem act_copy {n0 g room lost : Nat} {v : Value} {rs ws : List Ml} {w : World} {p : Nat → Prop} {A : Option Addr} {n k : Nat} (x : Ac) (hx : x.wh < 0 ∨ 7 < x.wh) (hF : Fl w n0 g v rs room lost) (hn0 : n0 ≤ w.heap.size) (hms : msL rs = msL ws) (hW : Want w p A n k ws) :
    Calls Try.prog 19 #[.pointer (some ⟨g, 0, none⟩), .agg #[.slice A n k, .int .i64 room, .int .i64 lost], .agg (acA x)] w (ActOk w n0 g v rs room p) := by
  have x0 := ((Blk.new w 49 #[.slice A n k, .int .i64 room, .int .i64 lost]).alloc (.cells (acA x) 45)).alloc (.cells #[.slice none 0 0, .int .i64 0, .int .i64 0] 49)
  have x1 := (Blk.new (w.alloc (.cells #[.slice A n k, .int .i64 room, .int .i64 lost] 49)) 45 (acA x)).alloc (.cells #[.slice none 0 0, .int .i64 0, .int .i64 0] 49)
  have x2 := Blk.new ((w.alloc (.cells #[.slice A n k, .int .i64 room, .int .i64 lost] 49)).alloc (.cells (acA x) 45)) 49 #[.slice none 0 0, .int .i64 0, .int .i64 0]
  simp only [World.size_alloc] at x1 x2
  have B0 : Below w.heap.size w (((w.alloc (.cells #[.slice A n k, .int .i64 room, .int .i64 lost] 49)).alloc (.cells (acA x) 45)).alloc (.cells #[.slice none 0 0, .int .i64 0, .int .i64 0] 49)) := balloc (balloc (balloc (Below.refl _ _) _) _) _
  have X := Lib.hid (And.intro x0 (And.intro x1 (And.intro x2 B0)))
  have HCP := Lib.hid (fun W (hb : Below w.heap.size w W) => copy_any (hF.below hb) (Nat.le_trans hn0 hb.size))
  have HF := Lib.hid hF
  have HMS := Lib.hid hms
  have HW := Lib.hid hW
  have t0 : (x.wh == 0) = false := by rw [beq_eq_false_iff_ne]; omega
  have t1 : (x.wh == 1) = false := by rw [beq_eq_false_iff_ne]; omega
  have t2 : (x.wh == 2) = false := by rw [beq_eq_false_iff_ne]; omega
  have t3 : (x.wh == 3) = false := by rw [beq_eq_false_iff_ne]; omega
  have t4 : (x.wh == 4) = false := by rw [beq_eq_false_iff_ne]; omega
  have t5 : (x.wh == 5) = false := by rw [beq_eq_false_iff_ne]; omega
  have t6 : (x.wh == 6) = false := by rw [beq_eq_false_iff_ne]; omega
  have t7 : (x.wh == 7) = false := by rw [beq_eq_false_iff_ne]; omega
  have y0 : x.wh ≠ 0 := by omega
  have y1 : x.wh ≠ 1 := by omega
  have y2 : x.wh ≠ 2 := by omega
  have y3 : x.wh ≠ 3 := by omega
  have y4 : x.wh ≠ 4 := by omega
  have y5 : x.wh ≠ 5 := by omega
  have y6 : x.wh ≠ 6 := by omega
  have y7 : x.wh ≠ 7 := by omega
  clear hF hms hW hx x0 x1 x2 B0
  simp only [acA] at *
  go_enter Try.func19, Try.ntmps19
  go_wp2_with fail
  have HX0 := Lib.hid X.out.1
  have HX2 := Lib.hid X.out.2.2.1
  have HB2 := Lib.hid X.out.2.2.2
  have hs2 : w.heap.size + 3 ≤ (((w.alloc (.cells #[.slice A n k, .int .i64 room, .int .i64 lost] 49)).alloc (.cells #[.int .i64 x.wh, .int .i64 x.pk, .int .i64 x.ml.m.link, .int .i64 x.ml.m.frm, .int .i64 x.ml.m.dst, .int .u32 x.ml.m.src, .slice x.ml.A x.ml.m.bs.length x.ml.c, .int .i64 x.ml.m.sent, .int .i64 x.nw, .int .i64 x.dl] 45)).alloc (.cells #[.slice none 0 0, .int .i64 0, .int .i64 0] 49)).heap.size := by simp
  clear X
  generalize ((w.alloc (.cells #[.slice A n k, .int .i64 room, .int .i64 lost] 49)).alloc (.cells #[.int .i64 x.wh, .int .i64 x.pk, .int .i64 x.ml.m.link, .int .i64 x.ml.m.frm, .int .i64 x.ml.m.dst, .int .u32 x.ml.m.src, .slice x.ml.A x.ml.m.bs.length x.ml.c, .int .i64 x.ml.m.sent, .int .i64 x.nw, .int .i64 x.dl] 45)).alloc (.cells #[.slice none 0 0, .int .i64 0, .int .i64 0] 49) = w2 at *
  obtain ⟨d0, d1, d2⟩ := HX0.out.three
  obtain ⟨m0, m1, m2⟩ := HX2.out.three
  obtain ⟨i0, i1, i2⟩ := HX2.out.ice3
  go_region_with
    (first
    | (go_at_call 26; refine (HCP.out _ (Below.drew HB2.out)).mono ?_; rintro e w3 ⟨g', v', rfl, F3, hg', hv', hb3⟩; have hb3' := below_of_drewN (n := 1) hb3; obtain ⟨q0, q1, q2⟩ := (HX0.out.below hb3' HX0.out.lt).three; obtain ⟨k0, k1, k2⟩ := (HX2.out.below hb3' HX2.out.lt).three; obtain ⟨l0, l1, l2⟩ := (HX2.out.below hb3' HX2.out.lt).ice3))
  all_goals
    go_wp2
    refine bodyPost_ret (v := .tuple #[.pointer (some ⟨g', 0, none⟩), .agg #[.slice A n k, .int .i64 room, .int .i64 lost], .bool true]) (by simp [results, Try.results19, go_sem, k0, k1, k2]) rfl ?_
    have fin : ∀ w6, Fr (fun q => q ≠ w.heap.size + 1 + 1) w3 w6 → ActOk w n0 g v rs room p (.returned (.tuple #[.pointer (some ⟨g', 0, none⟩), .agg #[.slice A n k, .int .i64 room, .int .i64 lost], .bool true])) w6 := fun w6 fE => by
      have hg2 : w2.heap.size ≤ g' := hg'
      have hv2 : ∀ q, v'.ownBlock = some q → w2.heap.size ≤ q := hv'
      have s3 := hb3'.size
      have b03 := bnext HB2.out hb3'
      have b06 : Below w.heap.size w w6 := b03.trans (fE.below (by omega) (fun b hb => by omega))
      refine ⟨g', v', rs, lost, A, n, k, ws, rfl, ⟨fE.blk F3.blk (by omega), F3.ge, own_keep F3.own (Nat.le_refl _) (fun q hq hl => fE.2.2.2.2 q (by have := hv2 q hq; omega) hl), F3.apart, F3.room0, F3.len, F3.lost0, fun r hr => ?_, F3.ok⟩, HMS.out, HW.out.fr (s := fun _ => True) (Fr.of_below b06) (fun _ _ _ => trivial) (fun b hp hl => .inl ⟨hp, hl⟩), Fr.of_below b06, fun b hb _ => ⟨by omega, fun e => by have := hv2 b e; omega⟩, fun r hr => .inl hr⟩
      obtain ⟨z1, z2⟩ := HF.out.mails r hr
      exact ⟨z1.fr (r := fun _ => True) (Fr.of_below b06) (fun _ _ _ => trivial) (fun b _ hl => ⟨by omega, fun e => by have := hv2 b e; omega⟩), z2⟩
    exact fin _ (((Fr.refl.put 0 _).put 1 _).put 2 _)
end Go.Proofs.Ytgdkobknjgbdbaa
