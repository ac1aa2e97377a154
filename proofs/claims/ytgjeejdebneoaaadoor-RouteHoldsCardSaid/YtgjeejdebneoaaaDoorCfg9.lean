/- ref08: what may be, by the document. -/
import Derived.Test.YtgjeejdebneoaaaDoorCfg8
namespace Go.Proofs.YtgjeejdebneoaaaDoor
set_option linter.unusedVariables false
set_option linter.unusedSimpArgs false
open Go.RowKit
set_option maxRecDepth 100000

theorem rspan_any (n : Int) (w : World) :
    Calls Tryd.prog 51 #[.int .i64 n] w fun e w' => e = .returned (.bool (decide (0 ≤ n ∧ n ≤ 1000000))) ∧ w = w' := by
  by_cases h0 : 0 ≤ n
  all_goals
    go_enter Tryd.func51, Tryd.ntmps51
    go_wp2
    go_ret
    exact ⟨ret_bool (by rw [Bool.eq_iff_iff]; simp; omega), rfl⟩

set_option maxHeartbeats 1000000 in
theorem rowns_any (p j t h g q s cp : Int) (l : List (Nat × Int)) (n : Nat) (hn : l.length = n) (A : Option Addr) (k B : Nat) (a : Nat) (m : Int) (w : World) (hr : Rd w B A (plC l)) (hB : B ≤ w.heap.size) (hn63 : n ≤ 9223372036854775806) :
    Calls Tryd.prog 69 #[.agg #[.int .i64 p, .int .i64 j, .int .i64 t, .int .i64 h, .int .i64 g, .int .i64 q, .int .i64 s, .int .i64 cp, .slice A n k], .agg #[.int .u32 a, .int .i64 m]] w fun e w' => e = .returned (.bool (decide ((a, m) ∈ l))) ∧ Below w.heap.size w w' := by
  have hE := fun (x : Nat × Int) => eq_pfx x.1 a x.2 m
  have HR := Lib.hid hr
  have HN := Lib.hid hn
  clear hr hn
  go_enter Tryd.func69, Tryd.ntmps69
  go_wp2_with fail
  obtain ⟨w0, hw0⟩ : ∃ w0, w0 = (w.alloc (.cells #[.int .i64 p, .int .i64 j, .int .i64 t, .int .i64 h, .int .i64 g, .int .i64 q, .int .i64 s, .int .i64 cp, .slice A n k] 24)).alloc (.cells #[.int .u32 a, .int .i64 m] 28) := ⟨_, rfl⟩
  have u8 : w0.cell? ⟨w.heap.size, 8, none⟩ = some (.slice A n k) := by rw [hw0]; exact ((Blk.new _ _ _).alloc _).cell 8
  have v0 : w0.cell? ⟨w.heap.size + 1, 0, none⟩ = some (.int .u32 a) := by
    have := (Blk.new (w.alloc (.cells #[.int .i64 p, .int .i64 j, .int .i64 t, .int .i64 h, .int .i64 g, .int .i64 q, .int .i64 s, .int .i64 cp, .slice A n k] 24)) 28 #[.int .u32 a, .int .i64 m]).cell 0
    rw [World.size_alloc] at this
    rw [hw0]; exact this
  have v1 : w0.cell? ⟨w.heap.size + 1, 1, none⟩ = some (.int .i64 m) := by
    have := (Blk.new (w.alloc (.cells #[.int .i64 p, .int .i64 j, .int .i64 t, .int .i64 h, .int .i64 g, .int .i64 q, .int .i64 s, .int .i64 cp, .slice A n k] 24)) 28 #[.int .u32 a, .int .i64 m]).cell 1
    rw [World.size_alloc] at this
    rw [hw0]; exact this
  have hb0 : Below w.heap.size w w0 := by rw [hw0]; exact balloc (balloc (Below.refl _ _) _) _
  rw [← hw0]
  clear hw0
  go_loopw [5] (fun i wr => ∃ c : Nat, c ≤ n ∧ i = .int .i64 c ∧ (∃ d, wr = w0.drewN d) ∧ (a, m) ∉ l.take c) (fun i _ => n - (intOf i).toNat)
  case atStart => exact ⟨0, by omega, rfl, ⟨0, rfl⟩, by simp⟩
  case round =>
    obtain ⟨c, hc, rfl, ⟨d, rfl⟩, hno⟩ := hrel
    have HO := Lib.hid hno
    clear hno
    by_cases hlt : c < n
    · have hcl : c < l.length := by have := HN.out; omega
      obtain ⟨b, off, rfl, hb, c0, c1⟩ := pl_at HR.out (List.getElem?_eq_getElem hcl)
      have x0 : w0.cell? ⟨b, off + c * 2, none⟩ = some (.int .u32 l[c].1) := by
        rw [← c0]; exact hb0.cell (p := ⟨b, off + c * 2, none⟩) (by show b < _; omega)
      have x1 : w0.cell? ⟨b, off + c * 2 + 1, none⟩ = some (.int .i64 l[c].2) := by
        rw [Nat.add_assoc, ← c1]; exact hb0.cell (p := ⟨b, off + (c * 2 + 1), none⟩) (by show b < _; omega)
      have hi1 : (c : Int) < (n : Int) := by omega
      have hS : (a, m) ∈ l.take (c + 1) ↔ ((a, m) ∈ l.take c ∨ (a, m) = l[c]) := by rw [List.take_succ_eq_append_getElem hcl, List.mem_append, List.mem_singleton]
      have hE2 := hE l[c]
      have HS := Lib.hid hS
      have HIN := Lib.hid (List.getElem_mem hcl)
      clear hE c0 c1 hS
      generalize l[c] = y at *
      obtain ⟨ya, ym⟩ := y
      simp only at x0 x1 hE2 HS HIN
      by_cases heq : a = ya ∧ m = ym
      · obtain ⟨rfl, rfl⟩ := heq
        simp only [beq_self_eq_true, Bool.and_self] at hE2
        go_wp2_with fail
        go_quiet (fail)
        go_wp2_with fail
        go_ret
        exact ⟨ret_bool (by symm; exact decide_eq_true HIN.out), below_drewN (below_drewN hb0 _) _⟩
      · have hf : ((ya : Int) == (a : Int) && ym == m) = false := by
          rw [Bool.eq_false_iff]
          intro hh
          simp only [Bool.and_eq_true, beq_iff_eq] at hh
          exact heq ⟨by omega, hh.2.symm⟩
        rw [hf] at hE2
        go_wp2_with fail
        go_quiet (fail)
        go_wp2_with fail
        go_roundw
        case rel =>
          refine ⟨c + 1, by omega, by go_num, ⟨_, rfl⟩, ?_⟩
          rw [HS.out]
          rintro (h | h)
          · exact HO.out h
          · exact heq (by simpa using h)
        case measure => simp [intOf]; omega
    · obtain rfl : c = n := by omega
      go_wp2_with fail
      go_ret
      refine ⟨ret_bool ?_, below_drewN hb0 _⟩
      have := HO.out
      rw [← HN.out, List.take_length] at this
      exact (decide_eq_false this).symm

theorem okOf_one (a : Nat) (n : Int) : okOf a n 1 = (okP (a, n) && !kindBad a (maskF n.toNat)) := by
  unfold okOf
  cases okP (a, n) <;> simp

set_option maxHeartbeats 2000000 in
theorem rown_any (l : List (Nat × Int)) (n : Nat) (hn : l.length = n) (A : Option Addr) (k B : Nat) (w : World) (hr : Rd w B A (plC l)) (hB : B ≤ w.heap.size) (hnk : n ≤ k) (hk : k ≤ 9223372036854775807) (hl : ∀ x ∈ l, x.1 < 4294967296) :
    Calls Tryd.prog 52 #[.slice A n k] w fun e w' => e = .returned (.bool (decide (n ≤ 16) && okOwn l)) ∧ Below w.heap.size w w' := by
  have HR := Lib.hid hr
  have HN := Lib.hid hn
  have HL := Lib.hid hl
  clear hr hn hl
  by_cases h16 : n ≤ 16
  case neg =>
    go_enter Tryd.func52, Tryd.ntmps52
    go_wp2_with fail
    go_ret
    exact ⟨ret_bool (by rw [decide_eq_false h16]; rfl), Below.refl _ _⟩
  case pos =>
  rw [decide_eq_true h16, Bool.true_and]
  go_enter Tryd.func52, Tryd.ntmps52
  go_wp2_with fail
  go_loopw [3] (fun i wr => ∃ c : Nat, c ≤ n ∧ i = .int .i64 c ∧ Below w.heap.size w wr ∧ ∀ i, i < c → okO l i = true) (fun i _ => n - (intOf i).toNat)
  case atStart => exact ⟨0, by omega, rfl, Below.refl _ _, fun i hi => by omega⟩
  case round =>
    obtain ⟨c, hc, rfl, hb, hok⟩ := hrel
    have HO2 := Lib.hid hok
    clear hok
    by_cases hlt2 : c < n
    · have hcl : c < l.length := by have := HN.out; omega
      obtain ⟨b, off, rfl, hbb, x0, x1⟩ := pl_at HR.out (List.getElem?_eq_getElem hcl)
      have hgd : l.getD c (0, 0) = l[c] := by simp [List.getD, List.getElem?_eq_getElem hcl]
      have hO : okO l c = (okOf l[c].1 l[c].2 1 && !decide (l[c] ∈ l.take c)) := by unfold okO; rw [hgd]
      have hx := HL.out l[c] (List.getElem_mem hcl)
      have hrt : Rd w B (some ⟨b, off, none⟩) (plC (l.take c)) := by
        have h := HR.out
        rw [← List.take_append_drop c l, plC_append] at h
        exact h.pre
      have HRT := Lib.hid hrt
      have hi1 : (c : Int) < (n : Int) := by omega
      clear hgd hrt
      generalize l[c] = y at *
      obtain ⟨ya, ym⟩ := y
      simp only at x0 x1 hO hx
      rw [okOf_one] at hO
      have hcall := fun W => refGood_any ya ym W hx
      generalize (okP (ya, ym) && !kindBad ya (maskF ym.toNat)) = gd at *
      have y0 := fun v : Sub wr => ((bnext hb v.2).cell (p := ⟨b, off + c * 2, none⟩) (by show b < _; omega)).trans x0
      have y1 := fun v : Sub wr => ((bnext hb v.2).cell (p := ⟨b, off + (c * 2 + 1), none⟩) (by show b < _; omega)).trans x1
      simp only [← Nat.add_assoc] at y1
      have hne : Nonempty (Sub wr) := ⟨⟨_, Below.refl _ _⟩⟩
      have HCT := Lib.hid (fun v : Sub wr => rowns_any 0 0 0 0 0 0 0 0 (l.take c) c (by simp; omega) (some ⟨b, off, none⟩) k B ya ym v.1 (HRT.out.below ((bnext hb v.2).mono hB)) (by have := (bnext hb v.2).size; omega) (by omega))
      have HG := Lib.hid hcall
      have HOO := Lib.hid hO
      clear hcall hO x0 x1
      cases gd
      · go_wp2_with fail
        refine region_sub (by kernel_rfl) (by kernel_rfl) ?_
        repeat (first | go_big_quiet_step (((first | (go_at_call 21; exact sub_below (HG.out _))))) | quiet_step (((first | (go_at_call 21; exact sub_below (HG.out _))))))
        refine wpQuiet_nil ?_
        rintro _ ⟨v, rfl⟩
        go_wp2_with fail
        go_ret
        refine ⟨ret_bool ?_, bnext hb v.2⟩
        cases hx2 : okOwn l
        · rfl
        · simp only [okOwn, List.all_eq_true, List.mem_range] at hx2
          have := hx2 c hcl
          rw [HOO.out] at this; cases this
      · cases hmem : decide ((ya, ym) ∈ l.take c)
        all_goals
          rw [hmem] at HOO HCT
          go_wp2_with fail
          refine region_sub (by kernel_rfl) (by kernel_rfl) ?_
          repeat (first | go_big_quiet_step (((first | (go_at_call 21; exact sub_below (HG.out _)) | (go_at_call 69; exact sub_below (HCT.out _))))) | quiet_step (((first | (go_at_call 21; exact sub_below (HG.out _)) | (go_at_call 69; exact sub_below (HCT.out _))))))
          refine wpQuiet_nil ?_
          rintro _ ⟨v, rfl⟩
          go_wp2_with fail
        · go_roundw
          case rel =>
            refine ⟨c + 1, by omega, by go_num, bnext hb v.2, fun i hi => ?_⟩
            by_cases hic : i < c
            · exact HO2.out i hic
            · obtain rfl : i = c := by omega
              exact HOO.out
          case measure => simp [intOf]; omega
        · go_ret
          refine ⟨ret_bool ?_, bnext hb v.2⟩
          cases hx2 : okOwn l
          · rfl
          · simp only [okOwn, List.all_eq_true, List.mem_range] at hx2
            have := hx2 c hcl
            rw [HOO.out] at this; cases this
    · obtain rfl : c = n := by omega
      go_wp2_with fail
      go_ret
      refine ⟨ret_bool ?_, hb⟩
      symm
      simp only [okOwn, List.all_eq_true, List.mem_range]
      rw [HN.out]
      exact HO2.out
end Go.Proofs.YtgjeejdebneoaaaDoor
