/- guard: what a response tells, and what is left out of it: the plain law. -/
import Derived.Test.YtlanfceilajifaaGreatDoorMF
import Derived.Test.YtlanfceilajifaaGreatDoorMA
namespace Go.Proofs.YtlanfceilajifaaGreatDoor
set_option linter.unusedVariables false
set_option linter.unusedSimpArgs false
open Go.RowKit
set_option maxRecDepth 100000
/-- what is told: a prefix, a metric -/
structure Tl where
  a : Nat
  n : Nat
  m : Nat
deriving DecidableEq, Inhabited
def tlL (t : Tl) : List Value := [.int .u32 t.a, .int .i64 t.n, .int .i64 t.m]
theorem tlL_len (t : Tl) : (tlL t).length = 3 := rfl
def tlC (l : List Tl) : List Value := l.flatMap tlL
theorem tlC_len (l : List Tl) : (tlC l).length = l.length * 3 := rows_len tlL_len l
theorem tlC_app (l l' : List Tl) : tlC (l ++ l') = tlC l ++ tlC l' := List.flatMap_append ..
theorem tlC_one (l : List Tl) : ∀ u ∈ tlC l, u.oneCell' = true := rows_one (fun t u hu => by
  simp [tlL] at hu
  rcases hu with rfl | rfl | rfl <;> rfl) l
theorem tl_at {w : World} {B : Nat} {A : Option Addr} {l : List Tl} (h : Rd w B A (tlC l)) {i : Nat} {x : Tl} (hi : l[i]? = some x) :
    ∃ b off, A = some ⟨b, off, none⟩ ∧ b < B ∧ w.cell? ⟨b, off + i * 3, none⟩ = some (.int .u32 x.a) ∧ w.cell? ⟨b, off + i * 3 + 1, none⟩ = some (.int .i64 x.n) ∧ w.cell? ⟨b, off + i * 3 + 2, none⟩ = some (.int .i64 x.m) := by
  have hl : i < l.length := (List.getElem?_eq_some_iff.1 hi).1
  obtain ⟨b, off, hA, hb, hc⟩ := h (by rw [tlC_len]; omega)
  refine ⟨b, off, hA, hb, ?_, ?_, ?_⟩
  · exact hc (i * 3) _ (rows_get tlL_len l i x 0 hi (by omega))
  all_goals
    rw [Nat.add_assoc]
    exact hc _ _ (rows_get tlL_len l i x _ hi (by omega))
theorem tl_info : (Tryz.prog.info? 93).map (fun i => (i.zero, i.size, i.bytes)) = some (some (.agg #[.int .u32 0, .int .i64 0, .int .i64 0]), 3, 24) := by kernel_rfl

def whyE (e : Er) : Nat := whyF e.f e.a e.m e.x e.k
def tlE (e : Er) : Tl := ⟨e.a, (lenF e.m).1, e.k⟩
/-- what is told -/
def tls (l : List Er) : List Tl := (l.filter (fun e => whyE e == 0)).map tlE
/-- what is left out, and why -/
def lfs (l : List Er) : List (Nat × Nat) := (l.zipIdx.filter (fun p => whyE p.1 != 0)).map (fun p => (p.2, whyE p.1))
def tlsC (cm : Int) (l : List Er) : List Tl := if cm = 2 then tls l else []
def lfsC (cm : Int) (l : List Er) : List (Nat × Nat) := if cm = 2 then lfs l else []
theorem tls_app (a b : List Er) : tls (a ++ b) = tls a ++ tls b := by simp [tls]
theorem tls_yes {x : Er} (h : whyE x = 0) (a : List Er) : tls (a ++ [x]) = tls a ++ [tlE x] := by simp [tls, h]
theorem tls_no {x : Er} (h : whyE x ≠ 0) (a : List Er) : tls (a ++ [x]) = tls a := by simp [tls, h]
theorem lfs_yes {x : Er} (h : whyE x = 0) (a : List Er) : lfs (a ++ [x]) = lfs a := by simp [lfs, h, List.zipIdx_append]
theorem lfs_no {x : Er} (h : whyE x ≠ 0) (a : List Er) : lfs (a ++ [x]) = lfs a ++ [(a.length, whyE x)] := by simp [lfs, h, List.zipIdx_append]
theorem lfs_count (l : List Er) (k : Nat) : ((l.zipIdx k).filter (fun p => whyE p.1 != 0)).length = (l.filter (fun e => whyE e != 0)).length := by
  induction l generalizing k with
  | nil => rfl
  | cons x l ih =>
    rw [List.zipIdx_cons]
    by_cases h : whyE x = 0 <;> simp [h, ih]
theorem lfs_len (l : List Er) : (lfs l).length = (l.filter (fun e => whyE e != 0)).length := by
  unfold lfs
  rw [List.length_map, lfs_count]
theorem lfs_app_len (a b : List Er) : (lfs (a ++ b)).length = (lfs a).length + (lfs b).length := by
  rw [lfs_len, lfs_len, lfs_len, List.filter_append, List.length_append]
theorem tls_lfs (l : List Er) : (tls l).length + (lfs l).length = l.length := by
  rw [lfs_len]
  induction l with
  | nil => rfl
  | cons x l ih =>
    by_cases h : whyE x = 0 <;> simp [tls, h] at ih ⊢ <;> omega
/-- an entry more that is left out -/
theorem tls_more_no {x : Er} (h : whyE x ≠ 0) (a b : List Er) : tls (a ++ [x] ++ b) = tls (a ++ b) := by rw [tls_app, tls_no h, ← tls_app]
theorem lfs_more_no {x : Er} (h : whyE x ≠ 0) (a b : List Er) : (lfs (a ++ [x] ++ b)).length = (lfs (a ++ b)).length + 1 := by
  rw [lfs_app_len, lfs_no h, List.length_append, lfs_app_len]
  simp
  omega
theorem tls_more_yes {x : Er} (h : whyE x = 0) (a b : List Er) : (tls (a ++ [x] ++ b)).length = (tls (a ++ b)).length + 1 := by
  rw [tls_app, tls_yes h, tls_app]
  simp
  omega
theorem lfs_more_yes {x : Er} (h : whyE x = 0) (a b : List Er) : (lfs (a ++ [x] ++ b)).length = (lfs (a ++ b)).length := by
  rw [lfs_app_len, lfs_yes h, ← lfs_app_len]
theorem pref_yes {x : Er} (h : whyE x = 0) : prefF x.f x.a x.m x.x x.k = ((x.a, (lenF x.m).1), 0) := if_pos h
theorem pref_no {x : Er} (h : whyE x ≠ 0) : prefF x.f x.a x.m x.x x.k = ((0, 0), 140) := if_neg h
theorem tls_le (l : List Er) : (tls l).length ≤ l.length := by have := tls_lfs l; omega
theorem lfs_le (l : List Er) : (lfs l).length ≤ l.length := by have := tls_lfs l; omega
theorem take_snoc {α : Type} {l : List α} {i : Nat} {x : α} (h : l[i]? = some x) : l.take (i + 1) = l.take i ++ [x] := by
  rw [List.take_add_one, h]
  rfl

theorem ne_tl (a n d a' n' d' : Int) (w : World) : (binOp .neq 93 (.agg #[.int .u32 a, .int .i64 n, .int .i64 d]) (.agg #[.int .u32 a', .int .i64 n', .int .i64 d'])).run Tryz.prog w = .ok (.bool (!(a == a' && n == n' && d == d'))) w := by
  have h1 : Tryz.prog.underlying 93 = some (.struct (Tryz.prog.fieldsOf 93)) := by simp [Program.fieldsOf, Tryz.underlying93]
  have h2 := run_equalIn_struct (P := Tryz.prog) w 9999 93 #[.int .u32 a, .int .i64 n, .int .i64 d] #[.int .u32 a', .int .i64 n', .int .i64 d'] h1 (by kernel_rfl)
  simp only [binOp]
  simp only [Op.equal, Op.maxDepth, Sem.run_bind, h2]
  by_cases e1 : a = a' <;> simp [go_sem, e1]
  by_cases e2 : n = n' <;> simp [go_sem, e2]
  by_cases e3 : d = d' <;> simp [go_sem, e3]
theorem tl_beq (x y : Tl) : ((x.a : Int) == (y.a : Int) && (x.n : Int) == (y.n : Int) && (x.m : Int) == (y.m : Int)) = decide (x = y) := by
  obtain ⟨a, n, d⟩ := x
  obtain ⟨a', n', d'⟩ := y
  simp only [Tl.mk.injEq]
  by_cases h : a = a' ∧ n = n' ∧ d = d'
  · rw [decide_eq_true h]
    obtain ⟨rfl, rfl, rfl⟩ := h
    simp
  · rw [decide_eq_false h, Bool.eq_false_iff]
    intro hc
    simp at hc
    exact h ⟨by omega, by omega, by omega⟩
set_option maxHeartbeats 1000000 in
theorem told_any16 (l l' : List Tl) (n n' c c' B B' : Nat) (hn : l.length = n) (hn' : l'.length = n') (A A' : Option Addr) (w : World) (hr : Rd w B A (tlC l)) (hr' : Rd w B' A' (tlC l')) (hc : n ≤ 9223372036854775807) :
    Calls Tryz.prog 17 #[.slice A n c, .slice A' n' c'] w fun e w' => e = .returned (.bool (decide (l = l'))) ∧ ∃ m, w' = w.drewN m := by
  by_cases hnn : n = n'
  · subst hnn
    have HN := Lib.hid hn
    have HN' := Lib.hid hn'
    have HR := Lib.hid hr
    have HR' := Lib.hid hr'
    have g0 : ((n : Int) != (n : Int)) = false := by simp
    clear hn hn' hr hr'
    go_enter Tryz.func17, Tryz.ntmps17
    go_wp2
    go_loopw [5] (fun i wr => ∃ j : Nat, j ≤ n ∧ i = .int .i64 j ∧ (∃ m, wr = w.drewN m) ∧ l.take j = l'.take j) (fun i _ => n - (intOf i).toNat)
    case atStart => exact ⟨0, Nat.zero_le _, rfl, ⟨0, rfl⟩, by simp⟩
    case round =>
      obtain ⟨j, hj, rfl, ⟨m, rfl⟩, heq⟩ := hrel
      have HEQ := Lib.hid heq
      clear heq
      by_cases hlt : j < n
      · obtain ⟨x, hx⟩ : ∃ x, l[j]? = some x := ⟨l[j]'(by rw [HN.out]; exact hlt), List.getElem?_eq_getElem _⟩
        obtain ⟨y, hy⟩ : ∃ y, l'[j]? = some y := ⟨l'[j]'(by rw [HN'.out]; exact hlt), List.getElem?_eq_getElem _⟩
        obtain ⟨b, off, rfl, _, q0, q1, q2⟩ := tl_at HR.out hx
        obtain ⟨b', off', rfl, _, r0, r1, r2⟩ := tl_at HR'.out hy
        have HX := Lib.hid hx
        have HY := Lib.hid hy
        have hne := ne_tl x.a x.n x.m y.a y.n y.m
        rw [tl_beq] at hne
        have hi1 : (j : Int) < (n : Int) := by omega
        have hi0 : (0 : Int) ≤ (j : Int) := by omega
        clear hx hy
        cases hd : decide (x = y)
        · rw [hd] at hne
          have HF := Lib.hid (show decide (l = l') = false from decide_eq_false (fun h => by
            have := HX.out
            rw [h, HY.out] at this
            exact (of_decide_eq_false hd) (Option.some.inj this).symm))
          clear hd
          go_wp2
          go_quiet (fail)
          go_wp2
          go_ret
          rw [HF.out]
          exact ⟨rfl, _, World.drewN_drewN ..⟩
        · rw [hd] at hne
          have hxy := of_decide_eq_true hd
          have HS := Lib.hid (show l.take (j + 1) = l'.take (j + 1) by rw [List.take_add_one, List.take_add_one, HEQ.out, HX.out, HY.out, hxy])
          clear hd hxy
          go_wp2
          go_quiet (fail)
          go_wp2
          go_roundw
          case rel => exact ⟨j + 1, by omega, by go_num, ⟨_, rfl⟩, HS.out⟩
          case measure => simp [intOf]; omega
      · obtain rfl : j = n := by omega
        have HT := Lib.hid (show decide (l = l') = true from decide_eq_true (by have := HEQ.out; rwa [List.take_of_length_le (by rw [HN.out]; exact Nat.le_refl _), List.take_of_length_le (by rw [HN'.out]; exact Nat.le_refl _)] at this))
        go_wp2
        go_ret
        rw [HT.out]
        exact ⟨rfl, m, rfl⟩
  · have g0 : ((n : Int) != (n' : Int)) = true := by rw [bne_iff_ne]; omega
    rw [show decide (l = l') = false from decide_eq_false (fun h => hnn (by rw [← hn, ← hn', h]))]
    clear hnn hn hn' hr hr'
    go_enter Tryz.func17, Tryz.ntmps17
    go_wp2
    go_ret
    exact ⟨rfl, 0, rfl⟩
end Go.Proofs.YtlanfceilajifaaGreatDoor
