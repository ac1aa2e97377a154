/- ref08: Standard, Same; ref02: Same. -/
import Derived.Test.YtcinggnhfgkahaaDoorCfgA
import Derived.ChangeKeysEq
namespace Go.Proofs.YtcinggnhfgkahaaDoor
set_option linter.unusedVariables false
set_option linter.unusedSimpArgs false
open Go.RowKit
set_option maxRecDepth 100000

theorem okC_stdl (l : List (Nat × Int)) : okC 25 10 180 120 120 1 4 256 l = (decide (l.length ≤ 16) && okOwn l) := by
  rw [okC_right (by intro i hi; rcases (by omega : i = 0 ∨ i = 1 ∨ i = 2 ∨ i = 3 ∨ i = 4 ∨ i = 5 ∨ i = 6) with rfl | rfl | rfl | rfl | rfl | rfl | rfl <;> decide)]
  by_cases h : l.length ≤ 16
  · rw [show decide ((l.length : Int) ≤ 256) = true from decide_eq_true (by omega)]; simp
  · rw [decide_eq_false h]; simp

set_option maxHeartbeats 1000000 in
theorem rstandard_ok (l : List (Nat × Int)) (n : Nat) (hn : l.length = n) (A : Option Addr) (k B : Nat) (w : World) (hr : Rd w B A (plC l)) (hB : B ≤ w.heap.size) (hnk : n ≤ k) (hk : k ≤ 9223372036854775807) (hn30 : n ≤ 1000) (hl : ∀ x ∈ l, x.1 < 4294967296) (hok : okC 25 10 180 120 120 1 4 256 l = true) :
    Calls Tryd.prog 13 #[.slice A n k] w fun e w' => ∃ A1 c1, e = .returned (.tuple #[.agg #[.int .i64 25, .int .i64 10, .int .i64 180, .int .i64 120, .int .i64 120, .int .i64 1, .int .i64 4, .int .i64 256, .slice A1 n c1], .int .i64 0]) ∧ n ≤ c1 ∧ c1 ≤ maxLen ∧ Rd w' w'.heap.size A1 (plC l) ∧ Below w.heap.size w w' := by
  obtain ⟨i0, hi0, hz0, hz1, hz2⟩ := info_parts pfx_info
  rw [okC_stdl, hn] at hok
  have B0 : Below w.heap.size w (w.alloc (.cells #[.int .i64 0, .int .i64 0, .int .i64 0, .int .i64 0, .int .i64 0, .int .i64 0, .int .i64 0, .int .i64 0, .slice none 0 0] 24)) := balloc (Below.refl _ _) _
  have HX0 := Lib.hid (Blk.new w 24 #[.int .i64 0, .int .i64 0, .int .i64 0, .int .i64 0, .int .i64 0, .int .i64 0, .int .i64 0, .int .i64 0, .slice none 0 0])
  have HO := Lib.hid (rown_any l n hn A k B (w.alloc (.cells #[.int .i64 0, .int .i64 0, .int .i64 0, .int .i64 0, .int .i64 0, .int .i64 0, .int .i64 0, .int .i64 0, .slice none 0 0] 24)) (hr.below (B0.mono hB)) (by simp; omega) hnk hk hl)
  rw [hok] at HO
  have HR := Lib.hid hr
  have HN := Lib.hid hn
  have HB0 := Lib.hid B0
  clear hr hl hn hok B0
  go_enter Tryd.func13, Tryd.ntmps13
  go_wp2_with fail
  refine HO.out.mono ?_
  rintro e w1 ⟨rfl, hb⟩
  have hB1 := bnext HB0.out hb
  have y0 := HX0.out.below hb HX0.out.lt
  have hlt := y0.lt
  have HY0 := Lib.hid y0
  have HRW := Lib.hid ((HR.out.below (hB1.mono hB)).alloc (by have := hB1.size; omega) (.cells #[] 28))
  have HB1 := Lib.hid hB1
  have d0 := (y0).cell 0
  have d1 := (y0).cell 1
  have d2 := (y0).cell 2
  have d3 := (y0).cell 3
  have d4 := (y0).cell 4
  have d5 := (y0).cell 5
  have d6 := (y0).cell 6
  have d7 := (y0).cell 7
  have d8 := (y0).cell 8
  simp only [List.getElem?_toArray, List.getElem?_cons_zero, List.getElem?_cons_succ] at d0 d1 d2 d3 d4 d5 d6 d7 d8
  have f0 := y0.frozen 0
  have f1 := y0.frozen 1
  have f2 := y0.frozen 2
  have f3 := y0.frozen 3
  have f4 := y0.frozen 4
  have f5 := y0.frozen 5
  have f6 := y0.frozen 6
  have f7 := y0.frozen 7
  have f8 := y0.frozen 8
  clear hb hB1 y0
  go_wp2_with (at_builtin; refine wpList_append_rd rfl (.tmp 8) (.tmp 9) _ rfl w1.heap.size 28 i0 _ 2 16 Tryd.underlying22 hi0 hz0 hz1 hz2 rfl (by omega) (.slice (some ⟨w1.heap.size, 0, none⟩) 0 0) 0 [] rfl (World.ownsRow_lit w1 #[] 0 (Nat.le_refl _) (by simp [maxLen]) (by simp)) n k (plC l) rfl (by rw [plC_len, HN.out]) HRW.out (plC_one l) (by simp only [maxLen]; omega) (by omega) (by simp) ?_; intro v1 w2 ho1 hg1 ha1
               simp only [Nat.zero_add, List.nil_append] at ho1
               obtain ⟨A1, c1, rfl, h1, h2, h3, h4⟩ := own_row ho1
               have b2 : Below w1.heap.size w1 w2 := ((Below.refl _ _).alloc (Nat.le_refl _) _).grown hg1 (by simp) (by simp [Value.ownBlock])
               have hY := HY0.out.below b2 hlt
               have HB2 := Lib.hid (bnext HB1.out b2)
               have HA := Lib.hid (show ∀ a, A1 = some a → w.heap.size ≠ a.block from fun a ha => by have := h4 a ha; omega)
               have HR2 := Lib.hid h3
               clear d0 d1 d2 d3 d4 d5 d6 d7 d8 f0 f1 f2 f3 f4 f5 f6 f7 f8
               have d0 := hY.cell 0
               have d1 := hY.cell 1
               have d2 := hY.cell 2
               have d3 := hY.cell 3
               have d4 := hY.cell 4
               have d5 := hY.cell 5
               have d6 := hY.cell 6
               have d7 := hY.cell 7
               have d8 := hY.cell 8
               simp only [List.getElem?_toArray, List.getElem?_cons_zero, List.getElem?_cons_succ] at d0 d1 d2 d3 d4 d5 d6 d7 d8
               have f0 := hY.frozen 0
               have f1 := hY.frozen 1
               have f2 := hY.frozen 2
               have f3 := hY.frozen 3
               have f4 := hY.frozen 4
               have f5 := hY.frozen 5
               have f6 := hY.frozen 6
               have f7 := hY.frozen 7
               have f8 := hY.frozen 8
               clear ho1 hg1 ha1 h3 h4 b2 hY)
  refine bodyPost_ret (v := .tuple #[.agg #[.int .i64 25, .int .i64 10, .int .i64 180, .int .i64 120, .int .i64 120, .int .i64 1, .int .i64 4, .int .i64 256, .slice A1 n c1], .int .i64 0]) (by simp [results, Tryd.results13, go_sem, d0, d1, d2, d3, d4, d5, d6, d7, d8]) rfl ?_
  have b3 := HB2.out
  refine ⟨A1, c1, rfl, h1, h2, ?_, by go_grown⟩
  simp only [World.size_setCell]
  exact ((((((((HR2.out.off HA.out _).off HA.out _).off HA.out _).off HA.out _).off HA.out _).off HA.out _).off HA.out _).off HA.out _).off HA.out _

set_option maxHeartbeats 1000000 in
theorem rstandard_bad (l : List (Nat × Int)) (n : Nat) (hn : l.length = n) (A : Option Addr) (k B : Nat) (w : World) (hr : Rd w B A (plC l)) (hB : B ≤ w.heap.size) (hnk : n ≤ k) (hk : k ≤ 9223372036854775807) (hl : ∀ x ∈ l, x.1 < 4294967296) (hok : okC 25 10 180 120 120 1 4 256 l = false) :
    Calls Tryd.prog 13 #[.slice A n k] w fun e w' => e = .returned (.tuple #[.agg #[.int .i64 0, .int .i64 0, .int .i64 0, .int .i64 0, .int .i64 0, .int .i64 0, .int .i64 0, .int .i64 0, .slice none 0 0], .int .i64 2]) ∧ Below w.heap.size w w' := by
  rw [okC_stdl, hn] at hok
  have B0 : Below w.heap.size w (w.alloc (.cells #[.int .i64 0, .int .i64 0, .int .i64 0, .int .i64 0, .int .i64 0, .int .i64 0, .int .i64 0, .int .i64 0, .slice none 0 0] 24)) := balloc (Below.refl _ _) _
  have HX0 := Lib.hid (Blk.new w 24 #[.int .i64 0, .int .i64 0, .int .i64 0, .int .i64 0, .int .i64 0, .int .i64 0, .int .i64 0, .int .i64 0, .slice none 0 0])
  have HO := Lib.hid (rown_any l n hn A k B (w.alloc (.cells #[.int .i64 0, .int .i64 0, .int .i64 0, .int .i64 0, .int .i64 0, .int .i64 0, .int .i64 0, .int .i64 0, .slice none 0 0] 24)) (hr.below (B0.mono hB)) (by simp; omega) hnk hk hl)
  rw [hok] at HO
  have HB0 := Lib.hid B0
  clear hr hl hn hok B0
  go_enter Tryd.func13, Tryd.ntmps13
  go_wp2_with fail
  refine HO.out.mono ?_
  rintro e w1 ⟨rfl, hb⟩
  have bz := bnext HB0.out hb
  have y0 := HX0.out.below hb HX0.out.lt
  have d0 := (y0).cell 0
  have d1 := (y0).cell 1
  have d2 := (y0).cell 2
  have d3 := (y0).cell 3
  have d4 := (y0).cell 4
  have d5 := (y0).cell 5
  have d6 := (y0).cell 6
  have d7 := (y0).cell 7
  have d8 := (y0).cell 8
  simp only [List.getElem?_toArray, List.getElem?_cons_zero, List.getElem?_cons_succ] at d0 d1 d2 d3 d4 d5 d6 d7 d8
  have f0 := y0.frozen 0
  have f1 := y0.frozen 1
  have f2 := y0.frozen 2
  have f3 := y0.frozen 3
  have f4 := y0.frozen 4
  have f5 := y0.frozen 5
  have f6 := y0.frozen 6
  have f7 := y0.frozen 7
  have f8 := y0.frozen 8
  clear hb
  go_wp2_with fail
  refine bodyPost_ret (v := .tuple #[.agg #[.int .i64 0, .int .i64 0, .int .i64 0, .int .i64 0, .int .i64 0, .int .i64 0, .int .i64 0, .int .i64 0, .slice none 0 0], .int .i64 2]) (by simp [results, Tryd.results13, go_sem, d0, d1, d2, d3, d4, d5, d6, d7, d8]) rfl ?_
  exact ⟨rfl, by go_grown⟩

theorem ne_pfx (a b n m : Int) (w : World) : (binOp .neq 28 (.agg #[.int .u32 a, .int .i64 n]) (.agg #[.int .u32 b, .int .i64 m])).run Tryd.prog w = .ok (.bool (!(a == b && n == m))) w := by
  have h1 : Tryd.prog.underlying 28 = some (.struct (Tryd.prog.fieldsOf 28)) := by simp [Program.fieldsOf, Tryd.underlying28]
  have h2 := run_equalIn_struct (P := Tryd.prog) w 9999 28 #[.int .u32 a, .int .i64 n] #[.int .u32 b, .int .i64 m] h1 (by kernel_rfl)
  simp only [binOp]
  simp only [Op.equal, Op.maxDepth, Sem.run_bind, h2]
  by_cases ha : a = b <;> by_cases hn : n = m <;> simp [go_sem, ha, hn]

set_option maxHeartbeats 1000000 in
theorem psame_any (l m : List (Nat × Int)) (n n' : Nat) (hn : l.length = n) (hn' : m.length = n') (A A' : Option Addr) (k k' : Nat) (w : World) (hr : Rd w w.heap.size A (plC l)) (hr' : Rd w w.heap.size A' (plC m)) (h63 : n ≤ 9223372036854775806) :
    Calls Tryd.prog 29 #[.slice A n k, .slice A' n' k'] w fun e w' => e = .returned (.bool (decide (l = m))) ∧ Below w.heap.size w w' := by
  have hE := fun (x y : Nat × Int) => ne_pfx x.1 y.1 x.2 y.2
  have HR := Lib.hid hr
  have HR' := Lib.hid hr'
  have HN := Lib.hid hn
  have HN' := Lib.hid hn'
  clear hr hr' hn hn'
  by_cases hlen : n = n'
  case neg =>
    have hd : ((n : Int) != (n' : Int)) = true := by simp; omega
    have hf : decide (l = m) = false := decide_eq_false (fun h => hlen (by rw [← HN.out, ← HN'.out, h]))
    have HF := Lib.hid hf
    clear hf
    go_enter Tryd.func29, Tryd.ntmps29
    go_wp2_with fail
    go_ret
    exact ⟨ret_bool HF.out.symm, Below.refl _ _⟩
  case pos =>
  subst hlen
  have hd : ((n : Int) != (n : Int)) = false := by simp
  go_enter Tryd.func29, Tryd.ntmps29
  go_wp2_with fail
  go_loopw [5] (fun i wr => ∃ c : Nat, c ≤ n ∧ i = .int .i64 c ∧ (∃ d, wr = w.drewN d) ∧ l.take c = m.take c) (fun i _ => n - (intOf i).toNat)
  case atStart => exact ⟨0, by omega, rfl, ⟨0, rfl⟩, by simp⟩
  case round =>
    obtain ⟨c, hc, rfl, ⟨d, rfl⟩, hsame⟩ := hrel
    have HO := Lib.hid hsame
    clear hsame
    by_cases hlt : c < n
    · have hcl : c < l.length := by have := HN.out; omega
      have hcm : c < m.length := by have := HN'.out; omega
      obtain ⟨b, off, rfl, hb, x0, x1⟩ := pl_at HR.out (List.getElem?_eq_getElem hcl)
      obtain ⟨b', off', rfl, hb', y0, y1⟩ := pl_at HR'.out (List.getElem?_eq_getElem hcm)
      rw [← Nat.add_assoc] at x1 y1
      have hi1 : (c : Int) < (n : Int) := by omega
      have hE2 := hE l[c] m[c]
      have hS : l[c] = m[c] → l.take (c + 1) = m.take (c + 1) := fun h => by
        rw [List.take_succ_eq_append_getElem hcl, List.take_succ_eq_append_getElem hcm, HO.out, h]
      have hD : l[c] ≠ m[c] → l ≠ m := fun h e => h (by subst e; rfl)
      have HS := Lib.hid hS
      have HD := Lib.hid hD
      clear hE hS hD
      generalize l[c] = x at *
      generalize m[c] = y at *
      obtain ⟨xa, xm⟩ := x
      obtain ⟨ya, ym⟩ := y
      simp only at x0 x1 y0 y1 hE2
      by_cases heq : xa = ya ∧ xm = ym
      · obtain ⟨rfl, rfl⟩ := heq
        simp only [beq_self_eq_true, Bool.and_self, Bool.not_true] at hE2
        go_wp2_with fail
        go_quiet (fail)
        go_wp2_with fail
        go_roundw
        case rel => exact ⟨c + 1, by omega, by go_num, ⟨_, rfl⟩, HS.out (by first | trivial | rfl)⟩
        case measure => simp [intOf]; omega
      · have hf : (!((xa : Int) == (ya : Int) && xm == ym)) = true := by
          rw [Bool.not_eq_true', Bool.eq_false_iff]
          intro hh
          simp only [Bool.and_eq_true, beq_iff_eq] at hh
          exact heq ⟨by omega, hh.2⟩
        rw [hf] at hE2
        go_wp2_with fail
        go_quiet (fail)
        go_wp2_with fail
        go_ret
        exact ⟨ret_bool (decide_eq_false (HD.out (fun h => heq (by simpa using h)))).symm, below_drewN (below_drewN (Below.refl _ _) _) _⟩
    · obtain rfl : c = n := by omega
      go_wp2_with fail
      go_ret
      refine ⟨ret_bool ?_, below_drewN (Below.refl _ _) _⟩
      have h := HO.out
      rw [List.take_of_length_le (by have := HN.out; omega), List.take_of_length_le (by have := HN'.out; omega)] at h
      exact (decide_eq_true h).symm

/-- '==' of two rows of seven numbers -/
theorem eq_arr7 (p j t h g q s p' j' t' h' g' q' s' : Int) (w : World) : (binOp .eql 47 (.agg #[.int .i64 p, .int .i64 j, .int .i64 t, .int .i64 h, .int .i64 g, .int .i64 q, .int .i64 s]) (.agg #[.int .i64 p', .int .i64 j', .int .i64 t', .int .i64 h', .int .i64 g', .int .i64 q', .int .i64 s'])).run Tryd.prog w = .ok (.bool (p == p' && j == j' && t == t' && h == h' && g == g' && q == q' && s == s')) w := by
  obtain ⟨i0, hi0⟩ : ∃ i, Tryd.prog.info? 2 = some i := by
    have : (Tryd.prog.info? 2).isSome = true := by kernel_rfl
    exact Option.isSome_iff_exists.1 this
  have h2 := run_equalIn_array (P := Tryd.prog) (w := w) 9999 (xs := #[.int .i64 p, .int .i64 j, .int .i64 t, .int .i64 h, .int .i64 g, .int .i64 q, .int .i64 s]) (ys := #[.int .i64 p', .int .i64 j', .int .i64 t', .int .i64 h', .int .i64 g', .int .i64 q', .int .i64 s']) Tryd.underlying47 hi0
  have c1 : Tryd.prog.cellsOf 2 = 1 := by kernel_rfl
  rw [c1] at h2
  simp only [binOp]
  simp only [Op.equal, Op.maxDepth, Sem.run_bind, h2]
  by_cases e1 : p = p' <;> simp [Op.eqItems, List.range_succ, go_sem, e1]
  by_cases e2 : j = j' <;> simp [Op.eqItems, go_sem, e2]
  by_cases e3 : t = t' <;> simp [Op.eqItems, go_sem, e3]
  by_cases e4 : h = h' <;> simp [Op.eqItems, go_sem, e4]
  by_cases e5 : g = g' <;> simp [Op.eqItems, go_sem, e5]
  by_cases e6 : q = q' <;> simp [Op.eqItems, go_sem, e6]
  by_cases e7 : s = s' <;> simp [Op.eqItems, go_sem, e7]
end Go.Proofs.YtcinggnhfgkahaaDoor
