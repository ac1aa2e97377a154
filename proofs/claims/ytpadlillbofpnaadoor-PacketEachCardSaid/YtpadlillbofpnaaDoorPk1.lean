/- packet: lists of entries; which are the same; a copy. -/
import Derived.Test.YtpadlillbofpnaaDoorEq
import Derived.Test.YtpadlillbofpnaaDoorRowX
import Derived.Test.YtpadlillbofpnaaDoorERef
namespace Go.Proofs.YtpadlillbofpnaaDoor
set_option linter.unusedVariables false
set_option linter.unusedSimpArgs false
open Go.RowKit
set_option maxRecDepth 100000
/-- an entry -/
structure Er where
  f : Int
  t : Int
  a : Nat
  m : Nat
  x : Nat
  k : Nat
deriving DecidableEq
def erL (e : Er) : List Value := [.int .i64 e.f, .int .i64 e.t, .int .u32 e.a, .int .u32 e.m, .int .u32 e.x, .int .u32 e.k]
def erA (e : Er) : Array Value := #[.int .i64 e.f, .int .i64 e.t, .int .u32 e.a, .int .u32 e.m, .int .u32 e.x, .int .u32 e.k]
/-- its numbers fit -/
def fitR (e : Er) : Prop := e.a < 4294967296 ∧ e.m < 4294967296 ∧ e.x < 4294967296 ∧ e.k < 4294967296
theorem erL_len (e : Er) : (erL e).length = 6 := rfl
theorem erL_one (e : Er) : ∀ u ∈ erL e, u.oneCell' = true := by
  intro u hu
  simp [erL] at hu
  rcases hu with rfl | rfl | rfl | rfl | rfl | rfl <;> rfl
def erC (l : List Er) : List Value := l.flatMap erL
theorem erC_len (l : List Er) : (erC l).length = l.length * 6 := rows_len erL_len l
theorem erC_one (l : List Er) : ∀ u ∈ erC l, u.oneCell' = true := rows_one erL_one l
theorem erC_app (l l' : List Er) : erC (l ++ l') = erC l ++ erC l' := List.flatMap_append ..
theorem er_at {w : World} {B : Nat} {A : Option Addr} {l : List Er} (h : Rd w B A (erC l)) {i : Nat} {x : Er} (hi : l[i]? = some x) :
    ∃ b off, A = some ⟨b, off, none⟩ ∧ b < B ∧ w.cell? ⟨b, off + i * 6, none⟩ = some (.int .i64 x.f) ∧ w.cell? ⟨b, off + i * 6 + 1, none⟩ = some (.int .i64 x.t) ∧ w.cell? ⟨b, off + i * 6 + 2, none⟩ = some (.int .u32 x.a) ∧ w.cell? ⟨b, off + i * 6 + 3, none⟩ = some (.int .u32 x.m) ∧ w.cell? ⟨b, off + i * 6 + 4, none⟩ = some (.int .u32 x.x) ∧ w.cell? ⟨b, off + i * 6 + 5, none⟩ = some (.int .u32 x.k) := by
  obtain ⟨b, off, e, hb, hc⟩ := rows_at erL_len (by omega) h hi
  refine ⟨b, off, e, hb, ?_, ?_, ?_, ?_, ?_, ?_⟩
  · simpa [Nat.add_assoc] using hc 0 _ rfl
  · simpa [Nat.add_assoc] using hc 1 _ rfl
  · simpa [Nat.add_assoc] using hc 2 _ rfl
  · simpa [Nat.add_assoc] using hc 3 _ rfl
  · simpa [Nat.add_assoc] using hc 4 _ rfl
  · simpa [Nat.add_assoc] using hc 5 _ rfl
theorem er_beq (x y : Er) : (x.f == y.f && x.t == y.t && (x.a : Int) == (y.a : Int) && (x.m : Int) == (y.m : Int) && (x.x : Int) == (y.x : Int) && (x.k : Int) == (y.k : Int)) = decide (x = y) := by
  obtain ⟨f, t, a, m, n, k⟩ := x
  obtain ⟨f', t', a', m', n', k'⟩ := y
  simp only [Er.mk.injEq]
  by_cases h : f = f' ∧ t = t' ∧ a = a' ∧ m = m' ∧ n = n' ∧ k = k'
  · rw [decide_eq_true h]
    obtain ⟨rfl, rfl, rfl, rfl, rfl, rfl⟩ := h
    simp
  · rw [decide_eq_false h, Bool.eq_false_iff]
    intro hc
    simp at hc
    obtain ⟨⟨⟨⟨⟨h1, h2⟩, h3⟩, h4⟩, h5⟩, h6⟩ := hc
    exact h ⟨h1, h2, by omega, by omega, by omega, by omega⟩

set_option maxHeartbeats 1000000 in
theorem erequal_any (l l' : List Er) (n n' c c' B B' : Nat) (hn : l.length = n) (hn' : l'.length = n') (A A' : Option Addr) (w : World) (hr : Rd w B A (erC l)) (hr' : Rd w B' A' (erC l')) (hc : n ≤ 9223372036854775807) :
    Calls Tryd.prog 42 #[.slice A n c, .slice A' n' c'] w fun e w' => e = .returned (.bool (decide (l = l'))) ∧ ∃ m, w' = w.drewN m := by
  by_cases hnn : n = n'
  · subst hnn
    have HN := Lib.hid hn
    have HN' := Lib.hid hn'
    have HR := Lib.hid hr
    have HR' := Lib.hid hr'
    have g0 : ((n : Int) != (n : Int)) = false := by simp
    clear hn hn' hr hr'
    go_enter Tryd.func42, Tryd.ntmps42
    go_wp2
    go_loopw [13] (fun i wr => ∃ j : Nat, j ≤ n ∧ i = .int .i64 j ∧ (∃ m, wr = w.drewN m) ∧ l.take j = l'.take j) (fun i _ => n - (intOf i).toNat)
    case atStart => exact ⟨0, Nat.zero_le _, rfl, ⟨0, rfl⟩, by simp⟩
    case round =>
      obtain ⟨j, hj, rfl, ⟨m, rfl⟩, heq⟩ := hrel
      have HEQ := Lib.hid heq
      clear heq
      by_cases hlt : j < n
      · obtain ⟨x, hx⟩ : ∃ x, l[j]? = some x := ⟨l[j]'(by rw [HN.out]; exact hlt), List.getElem?_eq_getElem _⟩
        obtain ⟨y, hy⟩ : ∃ y, l'[j]? = some y := ⟨l'[j]'(by rw [HN'.out]; exact hlt), List.getElem?_eq_getElem _⟩
        obtain ⟨b, off, rfl, _, q0, q1, q2, q3, q4, q5⟩ := er_at HR.out hx
        obtain ⟨b', off', rfl, _, r0, r1, r2, r3, r4, r5⟩ := er_at HR'.out hy
        have HX := Lib.hid hx
        have HY := Lib.hid hy
        have hne := ne_ent x.f x.t x.a x.m x.x x.k y.f y.t y.a y.m y.x y.k
        rw [er_beq] at hne
        have hi1 : (j : Int) < (n : Int) := by omega
        have hi0 : (0 : Int) ≤ (j : Int) := by omega
        clear hx hy
        cases hd : decide (x = y)
        · rw [hd] at hne
          have HF := Lib.hid (show decide (l = l') = false from decide_eq_false (fun h => by
            have := HX.out
            rw [h, HY.out] at this
            exact (of_decide_eq_false hd) (Option.some.inj this).symm))
          clear hd
          go_wp2
          go_quiet (fail)
          go_wp2
          go_ret
          rw [HF.out]
          exact ⟨rfl, _, World.drewN_drewN ..⟩
        · rw [hd] at hne
          have hxy := of_decide_eq_true hd
          have HS := Lib.hid (show l.take (j + 1) = l'.take (j + 1) by rw [List.take_add_one, List.take_add_one, HEQ.out, HX.out, HY.out, hxy])
          clear hd hxy
          go_wp2
          go_quiet (fail)
          go_wp2
          go_roundw
          case rel => exact ⟨j + 1, by omega, by go_num, ⟨_, rfl⟩, HS.out⟩
          case measure => simp [intOf]; omega
      · obtain rfl : j = n := by omega
        have HT := Lib.hid (show decide (l = l') = true from decide_eq_true (by have := HEQ.out; rwa [List.take_of_length_le (by rw [HN.out]; exact Nat.le_refl _), List.take_of_length_le (by rw [HN'.out]; exact Nat.le_refl _)] at this))
        go_wp2
        go_ret
        rw [HT.out]
        exact ⟨rfl, m, rfl⟩
  · have g0 : ((n : Int) != (n' : Int)) = true := by rw [bne_iff_ne]; omega
    rw [show decide (l = l') = false from decide_eq_false (fun h => hnn (by rw [← hn, ← hn', h]))]
    clear hnn hn hn' hr hr'
    go_enter Tryd.func42, Tryd.ntmps42
    go_wp2
    go_ret
    exact ⟨rfl, 0, rfl⟩

set_option maxHeartbeats 1000000 in
theorem ersame_any (l l' : List Er) (n n' c c' B B' : Nat) (hn : l.length = n) (hn' : l'.length = n') (A A' : Option Addr) (w : World) (hr : Rd w B A (erC l)) (hr' : Rd w B' A' (erC l')) (hc : n ≤ 9223372036854775807) :
    Calls Tryd.prog 17 #[.slice A n c, .slice A' n' c'] w fun e w' => e = .returned (.bool (decide (l = l'))) ∧ ∃ m, w' = w.drewN m := by
  by_cases hnn : n = n'
  · subst hnn
    have HN := Lib.hid hn
    have HN' := Lib.hid hn'
    have HR := Lib.hid hr
    have HR' := Lib.hid hr'
    have g0 : ((n : Int) != (n : Int)) = false := by simp
    clear hn hn' hr hr'
    go_enter Tryd.func17, Tryd.ntmps17
    go_wp2
    go_loopw [5] (fun i wr => ∃ j : Nat, j ≤ n ∧ i = .int .i64 j ∧ (∃ m, wr = w.drewN m) ∧ l.take j = l'.take j) (fun i _ => n - (intOf i).toNat)
    case atStart => exact ⟨0, Nat.zero_le _, rfl, ⟨0, rfl⟩, by simp⟩
    case round =>
      obtain ⟨j, hj, rfl, ⟨m, rfl⟩, heq⟩ := hrel
      have HEQ := Lib.hid heq
      clear heq
      by_cases hlt : j < n
      · obtain ⟨x, hx⟩ : ∃ x, l[j]? = some x := ⟨l[j]'(by rw [HN.out]; exact hlt), List.getElem?_eq_getElem _⟩
        obtain ⟨y, hy⟩ : ∃ y, l'[j]? = some y := ⟨l'[j]'(by rw [HN'.out]; exact hlt), List.getElem?_eq_getElem _⟩
        obtain ⟨b, off, rfl, _, q0, q1, q2, q3, q4, q5⟩ := er_at HR.out hx
        obtain ⟨b', off', rfl, _, r0, r1, r2, r3, r4, r5⟩ := er_at HR'.out hy
        have HX := Lib.hid hx
        have HY := Lib.hid hy
        have hne := ne_ent x.f x.t x.a x.m x.x x.k y.f y.t y.a y.m y.x y.k
        rw [er_beq] at hne
        have hi1 : (j : Int) < (n : Int) := by omega
        have hi0 : (0 : Int) ≤ (j : Int) := by omega
        clear hx hy
        cases hd : decide (x = y)
        · rw [hd] at hne
          have HF := Lib.hid (show decide (l = l') = false from decide_eq_false (fun h => by
            have := HX.out
            rw [h, HY.out] at this
            exact (of_decide_eq_false hd) (Option.some.inj this).symm))
          clear hd
          go_wp2
          go_quiet (fail)
          go_wp2
          go_ret
          rw [HF.out]
          exact ⟨rfl, _, World.drewN_drewN ..⟩
        · rw [hd] at hne
          have hxy := of_decide_eq_true hd
          have HS := Lib.hid (show l.take (j + 1) = l'.take (j + 1) by rw [List.take_add_one, List.take_add_one, HEQ.out, HX.out, HY.out, hxy])
          clear hd hxy
          go_wp2
          go_quiet (fail)
          go_wp2
          go_roundw
          case rel => exact ⟨j + 1, by omega, by go_num, ⟨_, rfl⟩, HS.out⟩
          case measure => simp [intOf]; omega
      · obtain rfl : j = n := by omega
        have HT := Lib.hid (show decide (l = l') = true from decide_eq_true (by have := HEQ.out; rwa [List.take_of_length_le (by rw [HN.out]; exact Nat.le_refl _), List.take_of_length_le (by rw [HN'.out]; exact Nat.le_refl _)] at this))
        go_wp2
        go_ret
        rw [HT.out]
        exact ⟨rfl, m, rfl⟩
  · have g0 : ((n : Int) != (n' : Int)) = true := by rw [bne_iff_ne]; omega
    rw [show decide (l = l') = false from decide_eq_false (fun h => hnn (by rw [← hn, ← hn', h]))]
    clear hnn hn hn' hr hr'
    go_enter Tryd.func17, Tryd.ntmps17
    go_wp2
    go_ret
    exact ⟨rfl, 0, rfl⟩

set_option maxHeartbeats 400000 in
theorem erclone_any (l : List Er) (n : Nat) (hn : l.length = n) (A : Option Addr) (c B : Nat) (w : World) (h : Rd w B A (erC l)) (hl : n ≤ 1048576) (hB : B ≤ w.heap.size) :
    Calls Tryd.prog 35 #[.slice A n c] w fun e w' => ∃ v, e = .returned v ∧ w'.ownsRow w.heap.size 55 6 v n (erC l) ∧ Below w.heap.size w w' := by
  obtain ⟨i0, hi0, hz0, hz1, hz2⟩ := info_parts ent_info
  have HN := Lib.hid hn
  clear hn
  have hnil := fun w => Lib.run_eql_slice_nil (P := Tryd.prog) w 25 55 A n c 0 0 Tryd.underlying25
  cases A with
  | none =>
    have h0 : l = [] := by
      rcases Nat.eq_zero_or_pos (erC l).length with h0 | h0
      · rw [erC_len] at h0; exact List.eq_nil_of_length_eq_zero (by omega)
      · obtain ⟨_, _, hA, _⟩ := h h0; cases hA
    subst h0
    have hn0 := HN.out
    simp at hn0
    subst hn0
    go_enter Tryd.func35, Tryd.ntmps35
    go_wp2
    go_ret
    exact ⟨_, rfl, World.ownsRow_nil _ _ _ _, Below.refl _ _⟩
  | some a =>
    go_enter Tryd.func35, Tryd.ntmps35
    go_wp2_with (at_builtin; refine wpList_append_rd rfl (.tmp 5) (.tmp 6) _ rfl w.heap.size 55 i0 _ 6 32 Tryd.underlying25 hi0 hz0 hz1 hz2 rfl (by omega) (.slice (some ⟨w.heap.size, 0, none⟩) 0 0) 0 [] rfl (World.ownsRow_lit w #[] 0 (Nat.le_refl _) (by simp [maxLen]) (by simp)) n c (erC l) rfl (by rw [erC_len, HN.out]) (h.alloc hB _) (erC_one l) (by simp only [maxLen]; omega) (by omega) (by simp) ?_; intro v1 w1 ho1 hg1 ha1)
    go_ret
    simp only [Nat.zero_add, List.nil_append] at ho1
    exact ⟨_, rfl, ho1, ((Below.refl _ _).alloc (Nat.le_refl _) _).grown hg1 (by simp) (by simp [Value.ownBlock])⟩
end Go.Proofs.YtpadlillbofpnaaDoor
