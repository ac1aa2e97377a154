/- The readers of octet: each method's contract. -/
import Derived.Test.YtpadlillbofpnaaDoorOct
namespace Go.Proofs.YtpadlillbofpnaaDoor
set_option linter.unusedVariables false
set_option linter.unusedSimpArgs false
open Go.RowKit

theorem u8_info : (Tryd.prog.info? 5).map (fun i => (i.zero, i.size, i.bytes)) = some (some (.int .u8 0), 1, 1) := by kernel_rfl

/-- a slice of bytes is handed back in memory of the call's own -/
def GivesS (l : List UInt8) (w : World) (e : Ending) (w' : World) : Prop :=
  ∃ A c, e = .returned (.slice A l.length c) ∧ l.length ≤ c ∧ c ≤ maxLen ∧ Rd w' w'.heap.size A (l.map b8) ∧ Below w.heap.size w w' ∧ (∀ a, A = some a → w.heap.size ≤ a.block)

/-- what is owned reads as a list, and lies in memory of the call's own -/
theorem own_gives {w w1 : World} {e : TypeId} {v : Value} {l : List UInt8} {n : Nat} (hn : l.length = n) (h : w1.ownsRow w.heap.size e 1 v n (l.map b8)) (hb : Below w.heap.size w w1) : GivesS l w (.returned v) w1 := by
  subst hn
  rcases h.2 with ⟨rfl, h0⟩ | ⟨g, cap, cur, rfl, hg, _, hc, hm, _⟩
  · obtain rfl : l = [] := List.eq_nil_of_length_eq_zero (by omega)
    exact ⟨none, 0, rfl, by simp, by simp [maxLen], Rd.nil, hb, by simp⟩
  · exact ⟨_, _, rfl, hc, hm, Rd.of_own h, hb, by simp; exact hg⟩

set_option maxHeartbeats 400000 in
theorem clone_any (l : List UInt8) (n : Nat) (hn : l.length = n) (A : Option Addr) (c B : Nat) (w : World) (h : Rd w B A (l.map b8)) (hl : n ≤ 1048576) (hB : B ≤ w.heap.size) :
    Calls Tryd.prog 45 #[.slice A n c] w (GivesS l w) := by
  obtain ⟨i0, hi0, hz0, hz1, hz2⟩ := info_parts u8_info
  have HN := Lib.hid hn
  clear hn
  have hnil := fun w => Lib.run_eql_slice_nil (P := Tryd.prog) w 22 5 A n c 0 0 Tryd.underlying22
  cases A with
  | none =>
    have h0 : l = [] := by
      rcases Nat.eq_zero_or_pos (l.map b8).length with h0 | h0
      · exact List.eq_nil_of_length_eq_zero (by simpa using h0)
      · obtain ⟨_, _, hA, _⟩ := h h0; cases hA
    subst h0
    go_enter Tryd.func45, Tryd.ntmps45
    go_wp2
    go_ret
    exact ⟨none, 0, rfl, by simp, by simp, Rd.nil, Below.refl _ _, by simp⟩
  | some a =>
    go_enter Tryd.func45, Tryd.ntmps45
    go_wp2_with (at_builtin; refine wpList_append_rd rfl (.tmp 5) (.tmp 6) _ rfl w.heap.size 5 i0 _ 1 1 Tryd.underlying22 hi0 hz0 hz1 hz2 rfl (by omega) (.slice (some ⟨w.heap.size, 0, none⟩) 0 0) 0 [] rfl (World.ownsRow_lit w #[] 0 (Nat.le_refl _) (by simp [maxLen]) (by simp)) n c (l.map b8) rfl (by rw [List.length_map, HN.out]; omega) (h.alloc hB _) (b8_one l) (by simp only [maxLen]; omega) (by omega) (by simp) ?_; intro v1 w1 ho1 hg1 ha1)
    go_ret
    refine own_gives HN.out (by simpa using ho1) (((Below.refl _ _).alloc (Nat.le_refl _) _).grown hg1 (by simp) (by simp [Value.ownBlock]))

/-- a reader: a block of three fields; its bytes lie in memory ahead of it -/
def IsRdr (w : World) (g : Nat) (l : List UInt8) (at_ : Nat) : Prop :=
  ∃ A c, Blk w g 113 #[.slice A l.length c, .int .i64 at_, .bool true] ∧ Rd w g A (l.map b8) ∧ l.length ≤ c ∧ c ≤ maxLen ∧ at_ ≤ l.length

set_option maxHeartbeats 400000 in
theorem new_any (l : List UInt8) (n : Nat) (hn : l.length = n) (A : Option Addr) (c B : Nat) (w : World) (h : Rd w B A (l.map b8)) (hl : n ≤ 1048576) (hB : B ≤ w.heap.size) :
    Calls Tryd.prog 63 #[.slice A n c] w fun e w' => ∃ g, e = .returned (.pointer (some ⟨g, 0, none⟩)) ∧ IsRdr w' g l 0 ∧ w.heap.size ≤ g ∧ Below w.heap.size w w' := by
  have HN := Lib.hid hn
  clear hn
  go_enter Tryd.func63, Tryd.ntmps63
  go_wp2_with (go_at_call 45; refine (clone_any l _ HN.out _ _ _ _ h hl hB).mono ?_; rintro e w1 ⟨A1, c1, rfl, hc1, hm1, hr1, hb1, _⟩)
  go_ret
  exact ⟨_, rfl, ⟨A1, c1, Blk.new _ _ _, hr1.alloc (Nat.le_refl _) _, hc1, hm1, by omega⟩, hb1.size, hb1.alloc hb1.size _⟩

set_option maxHeartbeats 400000 in
theorem none_nil (w : World) :
    Calls Tryd.prog 69 #[.pointer none] w fun e w' => e = .returned (.bool true) ∧ w = w' := by
  go_enter Tryd.func69, Tryd.ntmps69
  go_wp2
  go_ret
  exact ⟨rfl, rfl⟩

set_option maxHeartbeats 400000 in
theorem none_some (g : Nat) (w : World) (h2 : w.cell? ⟨g, 2, none⟩ = some (.bool true)) :
    Calls Tryd.prog 69 #[.pointer (some ⟨g, 0, none⟩)] w fun e w' => e = .returned (.bool false) ∧ w = w' := by
  go_enter Tryd.func69, Tryd.ntmps69
  go_wp2
  go_ret
  exact ⟨rfl, rfl⟩

theorem take_nil (k : Int) (w : World) : Calls Tryd.prog 65 #[.pointer none, .int .i64 k] w fun e w' => e = .returned (.tuple #[.int .u32 0, .int .i64 1]) ∧ w = w' := by
  go_enter Tryd.func65, Tryd.ntmps65
  go_wp2_with fail
  refine scope_fwd 0 rfl ?_
  go_wp2_with (go_at_call 69; refine (none_nil _).mono ?_; rintro e w' ⟨rfl, rfl⟩)
  go_step3
  refine ⟨rfl, ?_⟩
  go_wp2
  rw [Exit.noGoto_ret]
  go_ret2
  exact ⟨rfl, rfl⟩

theorem WidthsAt.drewN {w : World} (h : WidthsAt w) (n : Nat) : WidthsAt (w.drewN n) := h

/-- what a call did to a reader: only its own block may have changed -/
def Moved (w w' : World) (g : Nat) (l : List UInt8) (p : Nat) : Prop := IsRdr w' g l p ∧ w.grownBy w' (some g)

theorem rdF_cases (l : List UInt8) (p : Nat) (k : Int) : (rdF l p k).2 = 0 ∨ ((rdF l p k).2 ≠ 0 ∧ (rdF l p k).1 = 0) := by
  unfold rdF; split <;> (try split) <;> (try split) <;> simp
theorem rdF_ok (l : List UInt8) (p : Nat) (k : Int) (h : (rdF l p k).2 = 0) : isW k = true ∧ 0 ≤ k ∧ p + k.toNat ≤ l.length := by
  unfold rdF at h
  by_cases h1 : isW k = false
  · simp [h1] at h
  · have h2 : isW k = true := by simpa using h1
    have h3 := isW_cases h2
    have h4 : ¬ (p : Int) < 0 := by omega
    rw [if_neg h1, if_neg h4] at h
    by_cases h5 : (l.length : Int) - k < p
    · rw [if_pos h5] at h; simp at h
    · exact ⟨h2, by omega, by omega⟩

/-- where a reader stands behind Take -/
def tookP (l : List UInt8) (p : Nat) (k : Int) : Nat := if (rdF l p k).2 = 0 then p + k.toNat else p

theorem rdr_moved {w w' : World} {g : Nat} {l : List UInt8} {p q : Nat} {n : Nat} (h : IsRdr w g l p) (hq : q ≤ l.length) (e : w' = (w.drewN n).setCell ⟨g, 1, none⟩ (.int .i64 q)) : Moved w w' g l q := by
  subst e
  obtain ⟨A, c, hb, hr, hlc, hcm, hp⟩ := h
  refine ⟨⟨A, c, ?_, ?_, hlc, hcm, hq⟩, ?_⟩
  · have := (hb.drewN n).set 1 (.int .i64 q)
    simpa using this
  · exact (hr.drewN n).far (p := ⟨g, 1, none⟩) (Nat.le_refl _) _
  · exact ⟨rfl, rfl, rfl, by simp [World.setCell, World.drewN], fun k _ hne => Below.heap_setCell (w.drewN n) _ _ k (by intro e; apply hne; rw [e])⟩
theorem rdr_still {w w' : World} {g : Nat} {l : List UInt8} {p : Nat} {n : Nat} (h : IsRdr w g l p) (e : w' = w.drewN n) : Moved w w' g l p := by
  subst e
  exact ⟨h, ⟨rfl, rfl, rfl, Nat.le_refl _, fun _ _ _ => rfl⟩⟩

set_option maxHeartbeats 400000 in
theorem take_some (g : Nat) (k : Int) (w : World) (l : List UInt8) (p : Nat) (h : IsRdr w g l p) (hw : WidthsAt w) :
    Calls Tryd.prog 65 #[.pointer (some ⟨g, 0, none⟩), .int .i64 k] w fun e w' => e = .returned (.tuple #[.int .u32 (rdF l p k).1, .int .i64 (rdF l p k).2]) ∧ Moved w w' g l (tookP l p k) := by
  have HR := Lib.hid h
  obtain ⟨A, c, hb, hr, hlc, hcm, hp⟩ := h
  unfold maxLen at hcm
  have h0 := hb.cell 0
  have h1 := hb.cell 1
  have h2 := hb.cell 2
  have hf := hb.frozen 1
  simp at h0 h1 h2
  have HT := Lib.hid (show tookP l p k = if (rdF l p k).2 = 0 then p + k.toNat else p from rfl)
  have HK := rdF_ok l p k
  rcases rdF_cases l p k with he | ⟨he, hv⟩
  · obtain ⟨hk1, hk2, hk3⟩ := HK he
    have HE := Lib.hid he
    have hrd := fun W hW hR => read_any l l.length rfl A c g W hW hR hlc (by omega) p k
    generalize rdF l p k = r at *
    obtain ⟨v, er⟩ := r
    simp only at he HE
    subst he
    have HD := Lib.hid hrd
    clear hrd HK hb
    go_enter Tryd.func65, Tryd.ntmps65
    go_wp2_with fail
    refine scope_fwd 0 rfl ?_
    go_wp2_with (go_at_call 69; refine (none_some _ _ h2).mono ?_; rintro e w' ⟨rfl, rfl⟩)
    go_quiet ((go_at_call 44; exact q_same (HD.out _ (hw.drewN _) (hr.drewN _))))
    go_wp2
    rw [jump_ret]
    go_ret2
    refine ⟨rfl, ?_⟩
    rw [HT.out, if_pos trivial]
    exact rdr_moved HR.out hk3 (by rw [show ((p + k.toNat : Nat) : Int) = p + k by omega])
  · have hrd := fun W hW hR => read_any l l.length rfl A c g W hW hR hlc (by omega) p k
    generalize rdF l p k = r at *
    obtain ⟨v, er⟩ := r
    simp only at he hv
    subst hv
    have he2 : (er != 0) = true := by simpa using he
    have HE := Lib.hid he
    have HD := Lib.hid hrd
    clear hrd HK hb he
    go_enter Tryd.func65, Tryd.ntmps65
    go_wp2_with fail
    refine scope_fwd 0 rfl ?_
    go_wp2_with (go_at_call 69; refine (none_some _ _ h2).mono ?_; rintro e w' ⟨rfl, rfl⟩)
    go_quiet ((go_at_call 44; exact q_same (HD.out _ (hw.drewN _) (hr.drewN _))))
    go_wp2
    go_step3
    refine ⟨rfl, ?_⟩
    go_wp2
    rw [Exit.noGoto_ret]
    go_ret2
    refine ⟨rfl, ?_⟩
    rw [HT.out, if_neg HE.out]
    exact rdr_still HR.out rfl

/-- what Skip answers, and where the reader stands then -/
def skF (l : List UInt8) (p : Nat) (k : Int) : Nat × Int := if k < 0 then (p, 4) else if (l.length : Int) - p < k then (p, 130) else (p + k.toNat, 0)

/-- where a part of a row begins -/
def cutA (A : Option Addr) (p m : Nat) : Option Addr := if m = 0 then A else A.map (fun x => x.add p)
/-- any part of a row, the empty one too -/
theorem cut0_any (A : Option Addr) (n c : Nat) (p m : Nat) (w : World) (hn : n ≤ c) (hc : c ≤ 9223372036854775807) (hm : p + m ≤ n) :
    Calls Tryd.prog 61 #[.slice A n c, .int .i64 p, .int .i64 m] w fun e w' => e = .returned (.slice (cutA A p m) m m) ∧ w = w' := by
  by_cases h0 : m = 0
  · subst h0
    go_enter Tryd.func61, Tryd.ntmps61
    go_wp2
    all_goals go_ret
    all_goals exact ⟨by simp [cutA], rfl⟩
  · unfold cutA
    rw [if_neg h0]
    exact cut_any A n c p m w hn hc hm (by omega)

theorem WidthsAt.below {w w' : World} (h : WidthsAt w) (hb : Below w.heap.size w w') : WidthsAt w' := by
  obtain ⟨h0, h1, h2⟩ := h
  exact ⟨(hb.cell (cell_lt h0)).trans h0, (hb.cell (cell_lt h1)).trans h1, (hb.cell (cell_lt h2)).trans h2⟩
end Go.Proofs.YtpadlillbofpnaaDoor
