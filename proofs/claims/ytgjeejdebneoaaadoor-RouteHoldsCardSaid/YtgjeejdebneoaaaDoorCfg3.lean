/- config: lists of prefixes; clamped; the functions of the spans. -/
import Derived.Test.YtgjeejdebneoaaaDoorCfg2
namespace Go.Proofs.YtgjeejdebneoaaaDoor
set_option linter.unusedVariables false
set_option linter.unusedSimpArgs false
open Go.RowKit
set_option maxRecDepth 100000

/-- the cells of a list of prefixes -/
def plC (l : List (Nat × Int)) : List Value := l.flatMap fun x => [.int .u32 x.1, .int .i64 x.2]
theorem plC_cons (x : Nat × Int) (l : List (Nat × Int)) : plC (x :: l) = .int .u32 x.1 :: .int .i64 x.2 :: plC l := by simp [plC]
theorem plC_append (l m : List (Nat × Int)) : plC (l ++ m) = plC l ++ plC m := by simp [plC]
theorem plC_len (l : List (Nat × Int)) : (plC l).length = l.length * 2 := by
  induction l with
  | nil => rfl
  | cons x l ih => rw [plC_cons, List.length_cons, List.length_cons, ih, List.length_cons]; omega
theorem plC_get (l : List (Nat × Int)) : ∀ (i : Nat) (x : Nat × Int), l[i]? = some x → (plC l)[i * 2]? = some (.int .u32 x.1) ∧ (plC l)[i * 2 + 1]? = some (.int .i64 x.2) := by
  induction l with
  | nil => intro i x h; simp at h
  | cons y l ih =>
    intro i x h
    rw [plC_cons]
    cases i with
    | zero => simp at h; subst h; simp
    | succ i =>
      simp at h
      have := ih i x h
      rw [show (i + 1) * 2 = i * 2 + 2 by omega]
      simpa using this
theorem plC_one (l : List (Nat × Int)) : ∀ u ∈ plC l, u.oneCell' = true := by
  intro u hu
  simp only [plC, List.mem_flatMap] at hu
  obtain ⟨x, _, hx⟩ := hu
  simp at hx
  rcases hx with rfl | rfl <;> rfl
/-- a prefix of a list that is read -/
theorem pl_at {w : World} {B : Nat} {A : Option Addr} {l : List (Nat × Int)} (h : Rd w B A (plC l)) {i : Nat} {x : Nat × Int} (hi : l[i]? = some x) :
    ∃ b off, A = some ⟨b, off, none⟩ ∧ b < B ∧ w.cell? ⟨b, off + i * 2, none⟩ = some (.int .u32 x.1) ∧ w.cell? ⟨b, off + (i * 2 + 1), none⟩ = some (.int .i64 x.2) := by
  have hlt : i < l.length := by
    rcases Nat.lt_or_ge i l.length with h | h
    · exact h
    · rw [List.getElem?_eq_none h] at hi; cases hi
  obtain ⟨b, off, e, hb, hc⟩ := h (by rw [plC_len]; omega)
  have := plC_get l i x hi
  exact ⟨b, off, e, hb, hc _ _ this.1, hc _ _ this.2⟩

theorem ret_num {k : IntKind} {a b : Int} (h : a = b) : Ending.returned (.int k a) = .returned (.int k b) := by rw [h]
theorem clamped_any (n a b : Int) (w : World) :
    Calls Tryd.prog 79 #[.int .i64 n, .int .i64 a, .int .i64 b] w fun e w' => e = .returned (.int .i64 (max a (min n b))) ∧ w = w' := by
  go_enter Tryd.func79, Tryd.ntmps79
  go_wp2
  all_goals
    go_ret
    exact ⟨ret_num (by omega), rfl⟩
theorem clampedI_any (n a b : Int) (w : World) :
    Calls Tryd.prog 80 #[.int .i64 n, .int .i64 a, .int .i64 b] w fun e w' => e = .returned (.int .i64 (max a (min n b))) ∧ w = w' := by
  go_enter Tryd.func80, Tryd.ntmps80
  go_wp2
  all_goals
    go_ret
    exact ⟨ret_num (by omega), rfl⟩

/-- a configuration's spans -/
def spanS (i : Nat) (p j t h g q s : Int) : Int := match i with | 0 => p | 1 => j | 2 => t | 3 => h | 4 => g | 5 => q | _ => s
set_option maxHeartbeats 1000000 in
theorem spanOf_any (i : Nat) (p j t h g q s cp : Int) (A : Option Addr) (n k : Nat) (w : World) (hi : i < 7) :
    Calls Tryd.prog (fnS i) #[.agg #[.int .i64 p, .int .i64 j, .int .i64 t, .int .i64 h, .int .i64 g, .int .i64 q, .int .i64 s, .int .i64 cp, .slice A n k]] w fun e w' => e = .returned (.int .i64 (spanS i p j t h g q s)) ∧ w' = w.alloc (.cells #[.int .i64 p, .int .i64 j, .int .i64 t, .int .i64 h, .int .i64 g, .int .i64 q, .int .i64 s, .int .i64 cp, .slice A n k] 24) := by
  rcases (by omega : i = 0 ∨ i = 1 ∨ i = 2 ∨ i = 3 ∨ i = 4 ∨ i = 5 ∨ i = 6) with rfl | rfl | rfl | rfl | rfl | rfl | rfl
  · show Calls Tryd.prog 86 _ _ _
    go_enter Tryd.func86, Tryd.ntmps86
    go_wp2; go_ret; exact ⟨rfl, rfl⟩
  · show Calls Tryd.prog 87 _ _ _
    go_enter Tryd.func87, Tryd.ntmps87
    go_wp2; go_ret; exact ⟨rfl, rfl⟩
  · show Calls Tryd.prog 88 _ _ _
    go_enter Tryd.func88, Tryd.ntmps88
    go_wp2; go_ret; exact ⟨rfl, rfl⟩
  · show Calls Tryd.prog 89 _ _ _
    go_enter Tryd.func89, Tryd.ntmps89
    go_wp2; go_ret; exact ⟨rfl, rfl⟩
  · show Calls Tryd.prog 90 _ _ _
    go_enter Tryd.func90, Tryd.ntmps90
    go_wp2; go_ret; exact ⟨rfl, rfl⟩
  · show Calls Tryd.prog 91 _ _ _
    go_enter Tryd.func91, Tryd.ntmps91
    go_wp2; go_ret; exact ⟨rfl, rfl⟩
  · show Calls Tryd.prog 92 _ _ _
    go_enter Tryd.func92, Tryd.ntmps92
    go_wp2; go_ret; exact ⟨rfl, rfl⟩

set_option maxHeartbeats 1000000 in
theorem index_any (l : List (Nat × Int)) (n : Nat) (hn : l.length = n) (A : Option Addr) (k B : Nat) (a : Nat) (m : Int) (w : World) (hr : Rd w B A (plC l)) (hB : B ≤ w.heap.size) (hn63 : n ≤ 9223372036854775807) :
    Calls Tryd.prog 94 #[.slice A n k, .agg #[.int .u32 a, .int .i64 m]] w fun e w' => ∃ z : Int, e = .returned (.int .i64 z) ∧ (0 ≤ z ↔ (a, m) ∈ l) ∧ Below w.heap.size w w' := by
  have hE := fun (x : Nat × Int) => eq_pfx a x.1 m x.2
  have HR := Lib.hid hr
  have HN := Lib.hid hn
  clear hr hn
  go_enter Tryd.func94, Tryd.ntmps94
  go_wp2_with fail
  obtain ⟨w0, hw0⟩ : ∃ w0, w0 = w.alloc (.cells #[.int .u32 a, .int .i64 m] 28) := ⟨_, rfl⟩
  have v0 : w0.cell? ⟨w.heap.size, 0, none⟩ = some (.int .u32 a) := by rw [hw0]; exact (Blk.new _ _ _).cell 0
  have v1 : w0.cell? ⟨w.heap.size, 1, none⟩ = some (.int .i64 m) := by rw [hw0]; exact (Blk.new _ _ _).cell 1
  have hb0 : Below w.heap.size w w0 := by rw [hw0]; exact balloc (Below.refl _ _) _
  rw [← hw0]
  clear hw0
  go_loopw [8] (fun i wr => ∃ c : Nat, c ≤ n ∧ i = .int .i64 c ∧ (∃ d, wr = w0.drewN d) ∧ (a, m) ∉ l.take c) (fun i _ => n - (intOf i).toNat)
  case atStart => exact ⟨0, by omega, rfl, ⟨0, rfl⟩, by simp⟩
  case round =>
    obtain ⟨c, hc, rfl, ⟨d, rfl⟩, hno⟩ := hrel
    have HO := Lib.hid hno
    clear hno
    by_cases hlt : c < n
    · have hcl : c < l.length := by have := HN.out; omega
      obtain ⟨b, off, rfl, hb, c0, c1⟩ := pl_at HR.out (List.getElem?_eq_getElem hcl)
      have x0 : w0.cell? ⟨b, off + c * 2, none⟩ = some (.int .u32 l[c].1) := by
        rw [← c0]; exact hb0.cell (p := ⟨b, off + c * 2, none⟩) (by show b < _; omega)
      have x1 : w0.cell? ⟨b, off + c * 2 + 1, none⟩ = some (.int .i64 l[c].2) := by
        rw [Nat.add_assoc, ← c1]; exact hb0.cell (p := ⟨b, off + (c * 2 + 1), none⟩) (by show b < _; omega)
      have hi1 : (c : Int) < (n : Int) := by omega
      have hS : (a, m) ∈ l.take (c + 1) ↔ ((a, m) ∈ l.take c ∨ (a, m) = l[c]) := by rw [List.take_succ_eq_append_getElem hcl, List.mem_append, List.mem_singleton]
      have hE2 := hE l[c]
      have HS := Lib.hid hS
      have HIN := Lib.hid (List.getElem_mem hcl)
      clear hE c0 c1 hS
      generalize l[c] = y at *
      obtain ⟨ya, ym⟩ := y
      simp only at x0 x1 hE2 HS HIN
      by_cases heq : a = ya ∧ m = ym
      · obtain ⟨rfl, rfl⟩ := heq
        simp only [beq_self_eq_true, Bool.and_self] at hE2
        go_wp2_with fail
        go_quiet (fail)
        go_wp2_with fail
        go_ret
        exact ⟨_, rfl, ⟨fun _ => HIN.out, fun _ => by omega⟩, below_drewN (below_drewN hb0 _) _⟩
      · have hf : ((a : Int) == (ya : Int) && m == ym) = false := by
          rw [Bool.eq_false_iff]
          intro hh
          simp only [Bool.and_eq_true, beq_iff_eq] at hh
          exact heq ⟨by omega, hh.2⟩
        rw [hf] at hE2
        go_wp2_with fail
        go_quiet (fail)
        go_wp2_with fail
        go_roundw
        case rel =>
          refine ⟨c + 1, by omega, by go_num, ⟨_, rfl⟩, ?_⟩
          rw [HS.out]
          rintro (h | h)
          · exact HO.out h
          · exact heq (by simpa using h)
        case measure => simp [intOf]; omega
    · obtain rfl : c = n := by omega
      go_wp2_with fail
      go_ret
      refine ⟨_, rfl, ⟨fun h => by omega, fun h => ?_⟩, below_drewN hb0 _⟩
      exact absurd (by rw [← HN.out, List.take_length] at HO; exact h) (fun h => HO.out (by rw [← HN.out, List.take_length]; exact h))

set_option maxHeartbeats 400000 in
theorem contains_any (l : List (Nat × Int)) (n : Nat) (hn : l.length = n) (A : Option Addr) (k B : Nat) (a : Nat) (m : Int) (w : World) (hr : Rd w B A (plC l)) (hB : B ≤ w.heap.size) (hn63 : n ≤ 9223372036854775807) :
    Calls Tryd.prog 81 #[.slice A n k, .agg #[.int .u32 a, .int .i64 m]] w fun e w' => e = .returned (.bool (decide ((a, m) ∈ l))) ∧ Below w.heap.size w w' := by
  have HR := Lib.hid hr
  have HN := Lib.hid hn
  clear hr hn
  go_enter Tryd.func81, Tryd.ntmps81
  go_wp2_with fail
  refine (index_any l _ HN.out _ _ B a m _ (HR.out.alloc hB _) (by simp; omega) hn63).mono ?_
  rintro e w1 ⟨z, rfl, hz, hb⟩
  go_wp2_with fail
  go_ret
  refine ⟨?_, bnext (balloc (Below.refl _ _) _) hb⟩
  congr 2
end Go.Proofs.YtgjeejdebneoaaaDoor
