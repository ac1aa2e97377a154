/- flight: Same, the program's and the document's. -/
import Derived.Test.YtgdkobknjgbdbaaFlP
namespace Go.Proofs.Ytgdkobknjgbdbaa
set_option linter.unusedVariables false
set_option linter.unusedSimpArgs false
open Go.RowKit
set_option maxRecDepth 100000

instance : DecidableEq Mm := fun a b => if h : sameM a b = true then isTrue (sameM_eq h) else isFalse (fun e => h (by rw [e]; exact sameM_self b))
set_option maxHeartbeats 1000000 in
theorem same1_any (a b : Ml) (w : World) (ha : Rd w w.heap.size a.A (a.m.bs.map b8)) (hb : Rd w w.heap.size b.A (b.m.bs.map b8)) :
    Calls Try.prog 44 #[.agg (mlA a), .agg (mlA b)] w fun e w' => e = .returned (.bool (sameM a.m b.m)) ∧ Below w.heap.size w w' := by
  have B2 := Lib.hid (show Below w.heap.size w ((w.alloc (.cells (mlA a) 72)).alloc (.cells (mlA b) 72)) from balloc (balloc (Below.refl _ _) _) _)
  have HS := Lib.hid (fun W (hW : Below w.heap.size w W) => samemail_any a b W ((ha.below hW).more hW.size) ((hb.below hW).more hW.size))
  clear ha hb
  simp only [mlA] at *
  go_enter Try.func44, Try.ntmps44
  go_wp2_with fail
  refine (HS.out _ B2.out).mono ?_
  rintro e w3 ⟨rfl, b3⟩
  go_wp2_with fail
  go_ret
  exact ⟨rfl, bnext B2.out b3⟩

theorem msL_ext {rs ss : List Ml} {n : Nat} (h1 : rs.length = n) (h2 : ss.length = n) (h : ∀ i, (hi : i < n) → (rs[i]'(by omega)).m = (ss[i]'(by omega)).m) : msL rs = msL ss := by
  apply List.ext_getElem
  · rw [msL_len, msL_len]; omega
  · intro i hi1 hi2
    rw [msL_len] at hi1 hi2
    rw [msL_get rs i hi1, msL_get ss i hi2]
    exact h i (by omega)
theorem msL_ne {rs ss : List Ml} {i : Nat} (h1 : i < rs.length) (h2 : i < ss.length) (h : rs[i].m ≠ ss[i].m) : decide (msL rs = msL ss) = false := decide_eq_false fun e => by
  have h3 : (msL rs)[i]? = (msL ss)[i]? := by rw [e]
  rw [msL_get?, msL_get?, List.getElem?_eq_getElem h1, List.getElem?_eq_getElem h2] at h3
  exact h (by simpa using h3)
theorem msL_nlen {rs ss : List Ml} (h : rs.length ≠ ss.length) : decide (msL rs = msL ss) = false := decide_eq_false fun e => h (by have := congrArg List.length e; rwa [msL_len, msL_len] at this)

set_option maxHeartbeats 4000000 in
theorem eqfunc_any (rs ss : List Ml) (n n2 k k2 : Nat) (hn : rs.length = n) (hn2 : ss.length = n2) (A A2 : Option Addr) (B : Nat) (w : World) (hr : Rd w B A (mlC rs)) (hs : Rd w B A2 (mlC ss)) (hB : B ≤ w.heap.size) (hl : n ≤ 1000000)
    (hrb : ∀ r ∈ rs, Rd w B r.A (r.m.bs.map b8)) (hsb : ∀ r ∈ ss, Rd w B r.A (r.m.bs.map b8)) :
    Calls Try.prog 45 #[.slice A n k, .slice A2 n2 k2, .func (.func 44) #[] #[]] w fun e w' => e = .returned (.bool (decide (msL rs = msL ss))) ∧ Below w.heap.size w w' := by
  by_cases hnn : n = n2
  case neg =>
    rw [msL_nlen (show rs.length ≠ ss.length by omega)]
    have h1 : ((n : Int) != n2) = true := by rw [bne_iff_ne]; omega
    clear hr hs hrb hsb
    go_enter Try.func45, Try.ntmps45
    go_wp2_with fail
    go_ret
    exact ⟨rfl, Below.refl _ _⟩
  subst hnn
  have HN := Lib.hid (And.intro hn hn2)
  have HR := Lib.hid (And.intro hr hs)
  have HRB := Lib.hid (And.intro hrb hsb)
  have h1 : ((n : Int) != n) = false := by simp
  clear hr hs hrb hsb hn hn2
  go_enter Try.func45, Try.ntmps45
  go_wp2_with fail
  go_loopw [17] (fun i wr => ∃ c : Nat, c ≤ n ∧ i = .int .i64 c ∧ Below w.heap.size w wr ∧ Hid (∀ i, (hi : i < c) → (h1 : i < rs.length) → (h2 : i < ss.length) → rs[i].m = ss[i].m)) (fun i _ => n - (intOf i).toNat)
  case atStart => exact ⟨0, by omega, rfl, Below.refl _ _, Lib.hid (fun i hi => absurd hi (by omega))⟩
  case round =>
    obtain ⟨c, hc, rfl, hb, HO⟩ := hrel
    by_cases hlt : c < n
    case neg =>
      obtain rfl : c = n := by omega
      have HZ := Lib.hid (show decide (msL rs = msL ss) = true from decide_eq_true (msL_ext HN.out.1 HN.out.2 (fun i hi => HO.out i hi (by have := HN.out.1; omega) (by have := HN.out.2; omega))))
      go_wp2_with fail
      go_ret
      exact ⟨by rw [HZ.out]; rfl, hb⟩
    case pos =>
      have hcl : c < rs.length := by have := HN.out; omega
      have hcs : c < ss.length := by have := HN.out; omega
      obtain ⟨b, off, rfl, hbb, c0, c1, c2, c3, c4, c5⟩ := ml_at (HR.out.1.below (hb.mono hB)) (List.getElem?_eq_getElem hcl)
      obtain ⟨b2, off2, rfl, hbb2, z0, z1, z2, z3, z4, z5⟩ := ml_at (HR.out.2.below (hb.mono hB)) (List.getElem?_eq_getElem hcs)
      have hi1 : (c : Int) < (n : Int) := by omega
      have hws := hb.size
      have hR1 := HRB.out.1 rs[c] (List.getElem_mem hcl)
      have hR2 := HRB.out.2 ss[c] (List.getElem_mem hcs)
      have HE := Lib.hid (show rs[c].m = ss[c].m → ∀ i, (hi : i < c + 1) → (h1 : i < rs.length) → (h2 : i < ss.length) → rs[i].m = ss[i].m from fun h i hi h1 h2 => by
        rcases Nat.lt_or_ge i c with h' | h'
        · exact HO.out i h' h1 h2
        · obtain rfl : i = c := by omega
          exact h)
      have HNE := Lib.hid (show rs[c].m ≠ ss[c].m → decide (msL rs = msL ss) = false from fun h => msL_ne hcl hcs h)
      generalize rs[c] = x at *
      generalize ss[c] = y at *
      have hbw : b < wr.heap.size := cell_lt c0
      have hbw2 : b2 < wr.heap.size := cell_lt z0
      have HSM := Lib.hid (fun W (hW : Below w.heap.size w W) => same1_any x y W ((hR1.below (hW.mono hB)).more (Nat.le_trans hB hW.size)) ((hR2.below (hW.mono hB)).more (Nat.le_trans hB hW.size)))
      simp only [mlA] at HSM
      clear hR1 hR2
      have HB := Lib.hid hb
      cases hq : sameM x.m y.m
      · have hne := HNE.out (fun e => by rw [e, sameM_self] at hq; cases hq)
        have HNE2 := Lib.hid hne
        rw [hq] at HSM
        clear hne hq HE HNE
        go_wp2_with fail
        refine (HSM.out _ (balloc (balloc HB.out _) _)).mono ?_
        rintro e w3 ⟨rfl, b3⟩
        go_wp2_with fail
        go_ret
        exact ⟨by rw [HNE2.out]; rfl, bnext (balloc (balloc HB.out _) _) b3⟩
      · have HE2 := Lib.hid (HE.out (sameM_eq hq))
        rw [hq] at HSM
        clear hq HE HNE
        go_wp2_with fail
        refine (HSM.out _ (balloc (balloc HB.out _) _)).mono ?_
        rintro e w3 ⟨rfl, b3⟩
        have b4 := bnext (balloc (balloc HB.out _) _) b3
        go_wp2_with fail
        go_roundw
        case rel => exact ⟨c + 1, by omega, by go_num, b4, HE2⟩
        case measure => simp [intOf]; omega

set_option maxHeartbeats 4000000 in
theorem refmails_any (rs ss : List Ml) (n n2 k k2 : Nat) (hn : rs.length = n) (hn2 : ss.length = n2) (A A2 : Option Addr) (B : Nat) (w : World) (hr : Rd w B A (mlC rs)) (hs : Rd w B A2 (mlC ss)) (hB : B ≤ w.heap.size) (hl : n ≤ 1000000)
    (hrb : ∀ r ∈ rs, Rd w B r.A (r.m.bs.map b8)) (hsb : ∀ r ∈ ss, Rd w B r.A (r.m.bs.map b8)) :
    Calls Try.prog 47 #[.slice A n k, .slice A2 n2 k2] w fun e w' => e = .returned (.bool (decide (msL rs = msL ss))) ∧ Below w.heap.size w w' := by
  by_cases hnn : n = n2
  case neg =>
    rw [msL_nlen (show rs.length ≠ ss.length by omega)]
    have h1 : ((n : Int) != n2) = true := by rw [bne_iff_ne]; omega
    clear hr hs hrb hsb
    go_enter Try.func47, Try.ntmps47
    go_wp2_with fail
    go_ret
    exact ⟨rfl, Below.refl _ _⟩
  subst hnn
  have HN := Lib.hid (And.intro hn hn2)
  have HR := Lib.hid (And.intro hr hs)
  have HRB := Lib.hid (And.intro hrb hsb)
  have h1 : ((n : Int) != n) = false := by simp
  clear hr hs hrb hsb hn hn2
  go_enter Try.func47, Try.ntmps47
  go_wp2_with fail
  go_loopw [5] (fun i wr => ∃ c : Nat, c ≤ n ∧ i = .int .i64 c ∧ Below w.heap.size w wr ∧ Hid (∀ i, (hi : i < c) → (h1 : i < rs.length) → (h2 : i < ss.length) → rs[i].m = ss[i].m)) (fun i _ => n - (intOf i).toNat)
  case atStart => exact ⟨0, by omega, rfl, Below.refl _ _, Lib.hid (fun i hi => absurd hi (by omega))⟩
  case round =>
    obtain ⟨c, hc, rfl, hb, HO⟩ := hrel
    by_cases hlt : c < n
    case neg =>
      obtain rfl : c = n := by omega
      have HZ := Lib.hid (show decide (msL rs = msL ss) = true from decide_eq_true (msL_ext HN.out.1 HN.out.2 (fun i hi => HO.out i hi (by have := HN.out.1; omega) (by have := HN.out.2; omega))))
      go_wp2_with fail
      go_ret
      exact ⟨by rw [HZ.out]; rfl, hb⟩
    case pos =>
      have hcl : c < rs.length := by have := HN.out; omega
      have hcs : c < ss.length := by have := HN.out; omega
      obtain ⟨b, off, rfl, hbb, c0, c1, c2, c3, c4, c5⟩ := ml_at (HR.out.1.below (hb.mono hB)) (List.getElem?_eq_getElem hcl)
      obtain ⟨b2, off2, rfl, hbb2, z0, z1, z2, z3, z4, z5⟩ := ml_at (HR.out.2.below (hb.mono hB)) (List.getElem?_eq_getElem hcs)
      have hi1 : (c : Int) < (n : Int) := by omega
      have hws := hb.size
      have hR1 := HRB.out.1 rs[c] (List.getElem_mem hcl)
      have hR2 := HRB.out.2 ss[c] (List.getElem_mem hcs)
      have HE := Lib.hid (show rs[c].m = ss[c].m → ∀ i, (hi : i < c + 1) → (h1 : i < rs.length) → (h2 : i < ss.length) → rs[i].m = ss[i].m from fun h i hi h1 h2 => by
        rcases Nat.lt_or_ge i c with h' | h'
        · exact HO.out i h' h1 h2
        · obtain rfl : i = c := by omega
          exact h)
      have HNE := Lib.hid (show rs[c].m ≠ ss[c].m → decide (msL rs = msL ss) = false from fun h => msL_ne hcl hcs h)
      generalize rs[c] = x at *
      generalize ss[c] = y at *
      have hsm := fun v : Sub wr => refsame_any x y v.1 ((hR1.below ((hb.mono hB).trans (v.2.mono (Nat.le_trans hB hws)))).more (Nat.le_trans hB (Nat.le_trans hws v.2.size))) ((hR2.below ((hb.mono hB).trans (v.2.mono (Nat.le_trans hB hws)))).more (Nat.le_trans hB (Nat.le_trans hws v.2.size)))
      simp only [mlA] at hsm
      have hbw : b < wr.heap.size := cell_lt c0
      have hbw2 : b2 < wr.heap.size := cell_lt z0
      have p0 := fun v : Sub wr => (v.2.cell (p := ⟨b, off + c * 6, none⟩) hbw).trans c0
      have p1 := fun v : Sub wr => (v.2.cell (p := ⟨b, off + c * 6 + 1, none⟩) hbw).trans c1
      have p2 := fun v : Sub wr => (v.2.cell (p := ⟨b, off + c * 6 + 2, none⟩) hbw).trans c2
      have p3 := fun v : Sub wr => (v.2.cell (p := ⟨b, off + c * 6 + 3, none⟩) hbw).trans c3
      have p4 := fun v : Sub wr => (v.2.cell (p := ⟨b, off + c * 6 + 4, none⟩) hbw).trans c4
      have p5 := fun v : Sub wr => (v.2.cell (p := ⟨b, off + c * 6 + 5, none⟩) hbw).trans c5
      have q0 := fun v : Sub wr => (v.2.cell (p := ⟨b2, off2 + c * 6, none⟩) hbw2).trans z0
      have q1 := fun v : Sub wr => (v.2.cell (p := ⟨b2, off2 + c * 6 + 1, none⟩) hbw2).trans z1
      have q2 := fun v : Sub wr => (v.2.cell (p := ⟨b2, off2 + c * 6 + 2, none⟩) hbw2).trans z2
      have q3 := fun v : Sub wr => (v.2.cell (p := ⟨b2, off2 + c * 6 + 3, none⟩) hbw2).trans z3
      have q4 := fun v : Sub wr => (v.2.cell (p := ⟨b2, off2 + c * 6 + 4, none⟩) hbw2).trans z4
      have q5 := fun v : Sub wr => (v.2.cell (p := ⟨b2, off2 + c * 6 + 5, none⟩) hbw2).trans z5
      have hne : Nonempty (Sub wr) := ⟨⟨_, Below.refl _ _⟩⟩
      have HSM := Lib.hid hsm
      have HB := Lib.hid hb
      clear hsm hR1 hR2 c0 c1 c2 c3 c4 c5 z0 z1 z2 z3 z4 z5 hb
      cases hq : sameM x.m y.m
      · have hne2 := HNE.out (fun e => by rw [e, sameM_self] at hq; cases hq)
        have HNE2 := Lib.hid hne2
        rw [hq] at HSM
        clear hne2 hq HE HNE
        go_wp2_with fail
        refine region_sub (by kernel_rfl) (by kernel_rfl) ?_
        repeat (first | go_big_quiet_step (((go_at_call 23; exact sub_below (HSM.out _)))) | quiet_step (((go_at_call 23; exact sub_below (HSM.out _)))))
        refine wpQuiet_nil ?_
        rintro _ ⟨vz, rfl⟩
        have bz := bnext HB.out vz.2
        generalize vz.1 = wz at *
        clear p0 p1 p2 p3 p4 p5 q0 q1 q2 q3 q4 q5
        go_wp2_with fail
        go_ret
        exact ⟨by rw [HNE2.out]; rfl, bz⟩
      · have HE2 := Lib.hid (HE.out (sameM_eq hq))
        rw [hq] at HSM
        clear hq HE HNE
        go_wp2_with fail
        refine region_sub (by kernel_rfl) (by kernel_rfl) ?_
        repeat (first | go_big_quiet_step (((go_at_call 23; exact sub_below (HSM.out _)))) | quiet_step (((go_at_call 23; exact sub_below (HSM.out _)))))
        refine wpQuiet_nil ?_
        rintro _ ⟨vz, rfl⟩
        have bz := bnext HB.out vz.2
        generalize vz.1 = wz at *
        clear p0 p1 p2 p3 p4 p5 q0 q1 q2 q3 q4 q5
        go_wp2_with fail
        go_roundw
        case rel => exact ⟨c + 1, by omega, by go_num, bz, HE2⟩
        case measure => simp [intOf]; omega
end Go.Proofs.Ytgdkobknjgbdbaa
