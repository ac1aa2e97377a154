/- face: From. -/
import Derived.Test.YtfgbliglgdkgpaaDoorFa9
import Derived.Laws.Pointers
import Derived.WalkLawsBesides
namespace Go.Proofs.YtfgbliglgdkgpaaDoor
set_option linter.unusedVariables false
set_option linter.unusedSimpArgs false
open Go.RowKit
set_option maxRecDepth 100000
theorem errno_any (n : Int) (w : World) : Calls Tryd.prog 39 #[.iface 27 (.int .i64 n)] w fun e w' => e = .returned (.int .i64 n) ∧ w = w' := by
  have hta : ∀ w, (Instr.typeAssert (.iface 27 (.int .i64 n)) 20 27 false).run Tryd.prog w = .ok (.int .i64 n) w := fun _ => by kernel_rfl
  go_enter Tryd.func39, Tryd.ntmps39
  go_wp2
  go_ret
  exact ⟨rfl, rfl⟩
/-- the table of asks -/
def askC (H : Nat) : Array Value := #[.iface 27 (.int .i64 190), .func (.func 57) #[] #[], .iface 27 (.int .i64 191), .func (.func 58) #[] #[.pointer (some ⟨H, 0, none⟩)], .iface 27 (.int .i64 192), .func (.func 59) #[] #[]]
set_option maxHeartbeats 1000000 in
theorem asks_any (A : Option Addr) (n c H : Nat) (w : World) (hH : w.heap.size = H) :
    Calls Tryd.prog 38 #[.slice A n c] w fun e w' => e = .returned (.slice (some ⟨H + 1, 0, none⟩) 3 3) ∧ Blk w' H 75 #[.slice A n c] ∧ Blk w' (H + 1) 84 (askC H) ∧ Below w.heap.size w w' := by
  subst hH
  go_enter Tryd.func38, Tryd.ntmps38
  go_wp2
  go_ret
  refine ⟨rfl, (Blk.new w _ _).alloc _, ?_, by go_grown⟩
  have := Blk.new (w.alloc (.cells #[.slice A n c] 75)) 84 (askC w.heap.size)
  rwa [World.size_alloc] at this

theorem ask1_any (na : Nat) (nl : Int) (ad : Nat) (up : Bool) (a : Nat) (w : World) : Calls Tryd.prog 57 #[.agg #[.int .u32 na, .int .i64 nl, .int .u32 ad, .bool up], .int .u32 a] w fun e w' => e = .returned (.bool (!up)) ∧ Below w.heap.size w w' := by
  go_enter Tryd.func57, Tryd.ntmps57
  go_wp2
  go_ret
  exact ⟨rfl, balloc (Below.refl _ _) _⟩
theorem ask2_any (l : List Fc) (n c B b : Nat) (hn : l.length = n) (A : Option Addr) (na : Nat) (nl : Int) (ad : Nat) (up : Bool) (a : Nat) (w : World) (hb : Blk w b 75 #[.slice A n c]) (hr : Rd w B A (fcC l)) (hB : B ≤ w.heap.size) (hl : n ≤ 1000) :
    Calls Tryd.prog 58 #[.agg #[.int .u32 na, .int .i64 nl, .int .u32 ad, .bool up], .int .u32 a, .pointer (some ⟨b, 0, none⟩)] w fun e w' => e = .returned (.bool (ownB l a)) ∧ Below w.heap.size w w' := by
  have HO := Lib.hid (owns_any l n c B hn A a (w.alloc (.cells #[.int .u32 na, .int .i64 nl, .int .u32 ad, .bool up] 35)) (hr.alloc hB _) (Nat.le_trans hB (balloc (Below.refl _ _) _).size) hl)
  have d0 := hb.cell 0
  simp only [List.getElem?_toArray, List.getElem?_cons_zero] at d0
  have hbl := hb.lt
  clear hb hr hn
  go_enter Tryd.func58, Tryd.ntmps58
  go_wp2_with (go_at_call 52; refine HO.out.mono ?_; rintro e w1 ⟨rfl, b1⟩)
  go_ret
  exact ⟨rfl, bnext (balloc (Below.refl _ _) _) b1⟩
set_option maxHeartbeats 1000000 in
theorem ask3_any (na : Nat) (nl : Int) (ad : Nat) (up : Bool) (a : Nat) (w : World) (hna : na < 4294967296) (ha : a < 4294967296) : Calls Tryd.prog 59 #[.agg #[.int .u32 na, .int .i64 nl, .int .u32 ad, .bool up], .int .u32 a] w fun e w' => e = .returned (.bool (!(hasF (na, nl) a && !endF (na, nl) a))) ∧ Below w.heap.size w w' := by
  have HH := Lib.hid (fun W => has_any na nl a W hna ha)
  cases hh : hasF (na, nl) a
  · rw [hh] at HH
    clear hh
    go_enter Tryd.func59, Tryd.ntmps59
    go_wp2_with (go_at_call 42; refine (HH.out _).mono ?_; rintro e w1 ⟨rfl, b1⟩)
    go_ret
    exact ⟨rfl, bnext (balloc (Below.refl _ _) _) b1⟩
  · rw [hh] at HH
    have hp : okP (na, nl) = true := by unfold hasF at hh; simp at hh; exact hh.1
    obtain ⟨k, rfl, hk2, hz⟩ := okP_bounds hp
    have HE := Lib.hid (fun W => isEnd_any na k a W hna hk2 hz)
    simp only [Bool.true_and, Bool.not_not]
    clear hh hp hz
    generalize endF (na, (k : Int)) a = r at *
    go_enter Tryd.func59, Tryd.ntmps59
    go_wp2_with fail
    refine (HH.out _).mono ?_
    rintro e w1 ⟨rfl, b1⟩
    have K1 := (Blk.new w 35 #[.int .u32 na, .int .i64 k, .int .u32 ad, .bool up]).below b1 (by simp)
    have c1 := bnext (balloc (Below.refl _ w) _) b1
    have d0 := (K1).cell 0
    have d1 := (K1).cell 1
    have d2 := (K1).cell 2
    have d3 := (K1).cell 3
    simp only [List.getElem?_toArray, List.getElem?_cons_zero, List.getElem?_cons_succ] at d0 d1 d2 d3
    have z1 := K1.lt
    clear b1
    go_wp2_with fail
    refine (HE.out _).mono ?_
    rintro e w2 ⟨rfl, b2⟩
    go_wp2_with fail
    go_ret
    exact ⟨rfl, bnext c1 b2⟩

/-- what From answers -/
def fromE (l : List Fc) (i : Int) (a : Nat) : Int := if ¬ (0 ≤ i ∧ i < l.length) then 4 else if (getF l i).up = false then 190 else if ownB l a then 191 else if hasF (getF l i).net a && !endF (getF l i).net a then 0 else 192
theorem from_nil (i : Int) (a : Nat) (w : World) : Calls Tryd.prog 12 #[.pointer none, .int .i64 i, .int .u32 a] w fun e w' => e = .returned (.int .i64 1) ∧ Below w.heap.size w w' := by
  go_enter Tryd.func12, Tryd.ntmps12
  go_wp2_with fail
  refine scope_fwd 0 rfl ?_
  go_wp2_with (go_at_call 26; refine (get_nil _ _).mono ?_; rintro e w1 ⟨rfl, b1⟩)
  go_step3
  refine ⟨rfl, ?_⟩
  go_wp2
  rw [Exit.noGoto_ret]
  go_ret
  exact ⟨rfl, balloc b1 _⟩

set_option maxHeartbeats 8000000 in
theorem from_any {w : World} {n0 g : Nat} {v : Value} {l : List Fc} (i : Int) (a : Nat) (ha : a < 4294967296) (h : Fs w n0 g v l) : Calls Tryd.prog 12 #[.pointer (some ⟨g, 0, none⟩), .int .i64 i, .int .u32 a] w fun e w' => e = .returned (.int .i64 (fromE l i a)) ∧ Below w.heap.size w w' := by
  have HG := Lib.hid (get_any i h)
  by_cases hi : 0 ≤ i ∧ i < (l.length : Int)
  case neg =>
    have e2 : getE l i = 4 := by unfold getE; rw [if_neg hi]
    rw [show fromE l i a = 4 by unfold fromE; rw [if_pos hi]]
    rw [e2] at HG
    clear e2 hi h
    generalize getF l i = x at *
    go_enter Tryd.func12, Tryd.ntmps12
    go_wp2_with fail
    refine scope_fwd 0 rfl ?_
    go_wp2_with (go_at_call 26; refine HG.out.mono ?_; rintro e w1 ⟨rfl, b1⟩)
    go_step3
    refine ⟨rfl, ?_⟩
    go_wp2
    rw [Exit.noGoto_ret]
    go_ret
    exact ⟨rfl, balloc b1 _⟩
  case pos =>
  have e2 : getE l i = 0 := by unfold getE; rw [if_pos hi]
  have hfe : fromE l i a = if (getF l i).up = false then 190 else if ownB l a then 191 else if hasF (getF l i).net a && !endF (getF l i).net a then 0 else 192 := by unfold fromE; rw [if_neg (by simpa using hi)]
  have hfit : fitF (getF l i) := by
    unfold getF
    rw [if_pos hi, List.getD, List.getElem?_eq_getElem (show i.toNat < l.length by omega)]
    exact h.fit _ (List.getElem_mem _)
  rw [e2] at HG
  obtain ⟨A, c, rfl, hc1, hc2, hr, _⟩ := h.row
  have HR := Lib.hid hr
  have HH := Lib.hid h
  have hl16 := h.len
  generalize getF l i = x at *
  obtain ⟨na, nl, ad, up⟩ := x
  have H1 := Lib.hid (fun W => ask1_any na nl ad up a W)
  have H3 := Lib.hid (fun W => ask3_any na nl ad up a W hfit.1 ha)
  have HF := Lib.hid hfe
  simp only at HG HF
  clear e2 hi hr h hfe
  cases hup : up
  · subst hup
    rw [HF.out, if_pos rfl]
    have H1 := H1
    simp only [Bool.not_false] at H1
    clear HF H3
    go_enter Tryd.func12, Tryd.ntmps12
    go_wp2_with fail
    refine scope_fwd 0 rfl ?_
    go_wp2_with fail
    refine HG.out.mono ?_
    rintro e w1 ⟨rfl, b1⟩
    have K := HH.out.blk.below b1 HH.out.blk.lt
    have d0 := K.cell 0
    simp only [List.getElem?_toArray, List.getElem?_cons_zero] at d0
    have gl := K.lt
    clear K
    go_wp2_with fail
    refine (asks_any A _ c (w1.heap.size + 1) _ (by simp)).mono ?_
    rintro e w2 ⟨rfl, L2, T2, b2⟩
    have F2 := (Blk.new w1 35 #[.int .u32 na, .int .i64 nl, .int .u32 ad, .bool false]).below b2 (by simp)
    have c2 := bnext (balloc b1 (.cells #[.int .u32 na, .int .i64 nl, .int .u32 ad, .bool false] 35)) b2
    unfold askC at T2
    have t0 := (T2).cell 0
    have t1 := (T2).cell 1
    have t2 := (T2).cell 2
    have t3 := (T2).cell 3
    have t4 := (T2).cell 4
    have t5 := (T2).cell 5
    simp only [List.getElem?_toArray, List.getElem?_cons_zero, List.getElem?_cons_succ] at t0 t1 t2 t3 t4 t5
    have f0 := (F2).cell 0
    have f1 := (F2).cell 1
    have f2 := (F2).cell 2
    have f3 := (F2).cell 3
    simp only [List.getElem?_toArray, List.getElem?_cons_zero, List.getElem?_cons_succ] at f0 f1 f2 f3
    have z2 := T2.lt
    have y2 := F2.lt
    clear d0 gl b1 b2
    go_wp2_with fail
    refine wp_loop_rounds 4 ?_
    rw [rounds_succ]
    go_wp2_with fail
    refine (H1.out _).mono ?_
    rintro e w3 ⟨rfl, b3⟩
    have p3 := bnext (balloc (Below.refl _ w2) _) b3
    have L3 := L2.below p3 L2.lt
    have T3 := T2.below p3 T2.lt
    have F3 := F2.below p3 F2.lt
    have q3 := (Blk.new w2 84 #[.iface 27 (.int .i64 190), .func (.func 57) #[] #[]]).below b3 (by simp)
    have q0 := (q3).cell 0
    have q1 := (q3).cell 1
    simp only [List.getElem?_toArray, List.getElem?_cons_zero, List.getElem?_cons_succ] at q0 q1
    have c3 := bnext c2 p3
    clear L2 T2 F2 c2 z2 y2 b3 p3 q3
    clear t0 t1 t2 t3 t4 t5 f0 f1 f2 f3
    have t0 := (T3).cell 0
    have t1 := (T3).cell 1
    have t2 := (T3).cell 2
    have t3 := (T3).cell 3
    have t4 := (T3).cell 4
    have t5 := (T3).cell 5
    simp only [List.getElem?_toArray, List.getElem?_cons_zero, List.getElem?_cons_succ] at t0 t1 t2 t3 t4 t5
    have f0 := (F3).cell 0
    have f1 := (F3).cell 1
    have f2 := (F3).cell 2
    have f3 := (F3).cell 3
    simp only [List.getElem?_toArray, List.getElem?_cons_zero, List.getElem?_cons_succ] at f0 f1 f2 f3
    have z3 := T3.lt
    have y3 := F3.lt
    go_wp2_with (go_at_call 39; refine (errno_any _ _).mono ?_; rintro e w' ⟨rfl, rfl⟩)
    go_step3
    refine ⟨rfl, ?_⟩
    go_wp2
    rw [Exit.noGoto_ret]
    go_ret
    exact ⟨rfl, c3⟩
  subst hup
  simp only [Bool.not_true] at H1
  rw [if_neg (by simp)] at HF
  cases how : ownB l a
  case true =>
    rw [HF.out, if_pos how]
    have HOW := Lib.hid how
    clear HF H3 how
    go_enter Tryd.func12, Tryd.ntmps12
    go_wp2_with fail
    refine scope_fwd 0 rfl ?_
    go_wp2_with fail
    refine HG.out.mono ?_
    rintro e w1 ⟨rfl, b1⟩
    have K := HH.out.blk.below b1 HH.out.blk.lt
    have d0 := K.cell 0
    simp only [List.getElem?_toArray, List.getElem?_cons_zero] at d0
    have gl := K.lt
    clear K
    go_wp2_with fail
    refine (asks_any A _ c (w1.heap.size + 1) _ (by simp)).mono ?_
    rintro e w2 ⟨rfl, L2, T2, b2⟩
    have F2 := (Blk.new w1 35 #[.int .u32 na, .int .i64 nl, .int .u32 ad, .bool true]).below b2 (by simp)
    have c2 := bnext (balloc b1 (.cells #[.int .u32 na, .int .i64 nl, .int .u32 ad, .bool true] 35)) b2
    unfold askC at T2
    have t0 := (T2).cell 0
    have t1 := (T2).cell 1
    have t2 := (T2).cell 2
    have t3 := (T2).cell 3
    have t4 := (T2).cell 4
    have t5 := (T2).cell 5
    simp only [List.getElem?_toArray, List.getElem?_cons_zero, List.getElem?_cons_succ] at t0 t1 t2 t3 t4 t5
    have f0 := (F2).cell 0
    have f1 := (F2).cell 1
    have f2 := (F2).cell 2
    have f3 := (F2).cell 3
    simp only [List.getElem?_toArray, List.getElem?_cons_zero, List.getElem?_cons_succ] at f0 f1 f2 f3
    have z2 := T2.lt
    have y2 := F2.lt
    clear d0 gl b1 b2
    go_wp2_with fail
    refine wp_loop_rounds 4 ?_
    rw [rounds_succ]
    go_wp2_with fail
    refine (H1.out _).mono ?_
    rintro e w3 ⟨rfl, b3⟩
    have p3 := bnext (balloc (Below.refl _ w2) _) b3
    have L3 := L2.below p3 L2.lt
    have T3 := T2.below p3 T2.lt
    have F3 := F2.below p3 F2.lt
    have q3 := (Blk.new w2 84 #[.iface 27 (.int .i64 190), .func (.func 57) #[] #[]]).below b3 (by simp)
    have q0 := (q3).cell 0
    have q1 := (q3).cell 1
    simp only [List.getElem?_toArray, List.getElem?_cons_zero, List.getElem?_cons_succ] at q0 q1
    have c3 := bnext c2 p3
    clear L2 T2 F2 c2 z2 y2 b3 p3 q3
    clear t0 t1 t2 t3 t4 t5 f0 f1 f2 f3
    have t0 := (T3).cell 0
    have t1 := (T3).cell 1
    have t2 := (T3).cell 2
    have t3 := (T3).cell 3
    have t4 := (T3).cell 4
    have t5 := (T3).cell 5
    simp only [List.getElem?_toArray, List.getElem?_cons_zero, List.getElem?_cons_succ] at t0 t1 t2 t3 t4 t5
    have f0 := (F3).cell 0
    have f1 := (F3).cell 1
    have f2 := (F3).cell 2
    have f3 := (F3).cell 3
    simp only [List.getElem?_toArray, List.getElem?_cons_zero, List.getElem?_cons_succ] at f0 f1 f2 f3
    have z3 := T3.lt
    have y3 := F3.lt
    clear q0 q1
    go_wp2_with fail
    rw [rounds_succ]
    go_wp2_with fail
    refine (ask2_any l l.length c w.heap.size (w1.heap.size + 1) rfl A na nl ad true a _ (L3.alloc _) ((HR.out.below c3).alloc c3.size _) (Nat.le_trans c3.size (balloc (Below.refl _ _) _).size) (by omega)).mono ?_
    rintro e w4 ⟨rfl, b4⟩
    have p4 := bnext (balloc (Below.refl _ w3) _) b4
    have T4 := T3.below p4 T3.lt
    have F4 := F3.below p4 F3.lt
    have q4 := (Blk.new w3 84 #[.iface 27 (.int .i64 191), .func (.func 58) #[] #[.pointer (some ⟨w1.heap.size + 1, 0, none⟩)]]).below b4 (by simp)
    have q0 := (q4).cell 0
    have q1 := (q4).cell 1
    simp only [List.getElem?_toArray, List.getElem?_cons_zero, List.getElem?_cons_succ] at q0 q1
    have c4 := bnext c3 p4
    clear L3 T3 F3 c3 z3 y3 b4 p4 q4
    clear t0 t1 t2 t3 t4 t5 f0 f1 f2 f3
    have t0 := (T4).cell 0
    have t1 := (T4).cell 1
    have t2 := (T4).cell 2
    have t3 := (T4).cell 3
    have t4 := (T4).cell 4
    have t5 := (T4).cell 5
    simp only [List.getElem?_toArray, List.getElem?_cons_zero, List.getElem?_cons_succ] at t0 t1 t2 t3 t4 t5
    have f0 := (F4).cell 0
    have f1 := (F4).cell 1
    have f2 := (F4).cell 2
    have f3 := (F4).cell 3
    simp only [List.getElem?_toArray, List.getElem?_cons_zero, List.getElem?_cons_succ] at f0 f1 f2 f3
    have z4 := T4.lt
    have y4 := F4.lt
    rw [HOW.out]
    go_wp2_with (go_at_call 39; refine (errno_any _ _).mono ?_; rintro e w' ⟨rfl, rfl⟩)
    go_step3
    refine ⟨rfl, ?_⟩
    go_wp2
    rw [Exit.noGoto_ret]
    go_ret
    exact ⟨rfl, c4⟩
  case false =>
    rw [if_neg (by rw [how]; simp)] at HF
    have HOW := Lib.hid how
    clear how
    cases hin : (hasF (na, nl) a && !endF (na, nl) a)
    case false =>
      rw [show fromE l i a = 192 by rw [HF.out]; exact if_neg (by show ¬ ((hasF (na, nl) a && !endF (na, nl) a) = true); rw [hin]; simp)]
      rw [hin] at H3
      simp only [Bool.not_false] at H3
      clear HF hin
      go_enter Tryd.func12, Tryd.ntmps12
      go_wp2_with fail
      refine scope_fwd 0 rfl ?_
      go_wp2_with fail
      refine HG.out.mono ?_
      rintro e w1 ⟨rfl, b1⟩
      have K := HH.out.blk.below b1 HH.out.blk.lt
      have d0 := K.cell 0
      simp only [List.getElem?_toArray, List.getElem?_cons_zero] at d0
      have gl := K.lt
      clear K
      go_wp2_with fail
      refine (asks_any A _ c (w1.heap.size + 1) _ (by simp)).mono ?_
      rintro e w2 ⟨rfl, L2, T2, b2⟩
      have F2 := (Blk.new w1 35 #[.int .u32 na, .int .i64 nl, .int .u32 ad, .bool true]).below b2 (by simp)
      have c2 := bnext (balloc b1 (.cells #[.int .u32 na, .int .i64 nl, .int .u32 ad, .bool true] 35)) b2
      unfold askC at T2
      have t0 := (T2).cell 0
      have t1 := (T2).cell 1
      have t2 := (T2).cell 2
      have t3 := (T2).cell 3
      have t4 := (T2).cell 4
      have t5 := (T2).cell 5
      simp only [List.getElem?_toArray, List.getElem?_cons_zero, List.getElem?_cons_succ] at t0 t1 t2 t3 t4 t5
      have f0 := (F2).cell 0
      have f1 := (F2).cell 1
      have f2 := (F2).cell 2
      have f3 := (F2).cell 3
      simp only [List.getElem?_toArray, List.getElem?_cons_zero, List.getElem?_cons_succ] at f0 f1 f2 f3
      have z2 := T2.lt
      have y2 := F2.lt
      clear d0 gl b1 b2
      go_wp2_with fail
      refine wp_loop_rounds 4 ?_
      rw [rounds_succ]
      go_wp2_with fail
      refine (H1.out _).mono ?_
      rintro e w3 ⟨rfl, b3⟩
      have p3 := bnext (balloc (Below.refl _ w2) _) b3
      have L3 := L2.below p3 L2.lt
      have T3 := T2.below p3 T2.lt
      have F3 := F2.below p3 F2.lt
      have q3 := (Blk.new w2 84 #[.iface 27 (.int .i64 190), .func (.func 57) #[] #[]]).below b3 (by simp)
      have q0 := (q3).cell 0
      have q1 := (q3).cell 1
      simp only [List.getElem?_toArray, List.getElem?_cons_zero, List.getElem?_cons_succ] at q0 q1
      have c3 := bnext c2 p3
      clear L2 T2 F2 c2 z2 y2 b3 p3 q3
      clear t0 t1 t2 t3 t4 t5 f0 f1 f2 f3
      have t0 := (T3).cell 0
      have t1 := (T3).cell 1
      have t2 := (T3).cell 2
      have t3 := (T3).cell 3
      have t4 := (T3).cell 4
      have t5 := (T3).cell 5
      simp only [List.getElem?_toArray, List.getElem?_cons_zero, List.getElem?_cons_succ] at t0 t1 t2 t3 t4 t5
      have f0 := (F3).cell 0
      have f1 := (F3).cell 1
      have f2 := (F3).cell 2
      have f3 := (F3).cell 3
      simp only [List.getElem?_toArray, List.getElem?_cons_zero, List.getElem?_cons_succ] at f0 f1 f2 f3
      have z3 := T3.lt
      have y3 := F3.lt
      clear q0 q1
      go_wp2_with fail
      rw [rounds_succ]
      go_wp2_with fail
      refine (ask2_any l l.length c w.heap.size (w1.heap.size + 1) rfl A na nl ad true a _ (L3.alloc _) ((HR.out.below c3).alloc c3.size _) (Nat.le_trans c3.size (balloc (Below.refl _ _) _).size) (by omega)).mono ?_
      rintro e w4 ⟨rfl, b4⟩
      have p4 := bnext (balloc (Below.refl _ w3) _) b4
      have T4 := T3.below p4 T3.lt
      have F4 := F3.below p4 F3.lt
      have q4 := (Blk.new w3 84 #[.iface 27 (.int .i64 191), .func (.func 58) #[] #[.pointer (some ⟨w1.heap.size + 1, 0, none⟩)]]).below b4 (by simp)
      have q0 := (q4).cell 0
      have q1 := (q4).cell 1
      simp only [List.getElem?_toArray, List.getElem?_cons_zero, List.getElem?_cons_succ] at q0 q1
      have c4 := bnext c3 p4
      clear L3 T3 F3 c3 z3 y3 b4 p4 q4
      clear t0 t1 t2 t3 t4 t5 f0 f1 f2 f3
      have t0 := (T4).cell 0
      have t1 := (T4).cell 1
      have t2 := (T4).cell 2
      have t3 := (T4).cell 3
      have t4 := (T4).cell 4
      have t5 := (T4).cell 5
      simp only [List.getElem?_toArray, List.getElem?_cons_zero, List.getElem?_cons_succ] at t0 t1 t2 t3 t4 t5
      have f0 := (F4).cell 0
      have f1 := (F4).cell 1
      have f2 := (F4).cell 2
      have f3 := (F4).cell 3
      simp only [List.getElem?_toArray, List.getElem?_cons_zero, List.getElem?_cons_succ] at f0 f1 f2 f3
      have z4 := T4.lt
      have y4 := F4.lt
      rw [HOW.out]
      clear q0 q1
      go_wp2_with fail
      rw [rounds_succ]
      go_wp2_with fail
      refine (H3.out _).mono ?_
      rintro e w5 ⟨rfl, b5⟩
      have p5 := bnext (balloc (Below.refl _ w4) _) b5
      have T5 := T4.below p5 T4.lt
      have q5 := (Blk.new w4 84 #[.iface 27 (.int .i64 192), .func (.func 59) #[] #[]]).below b5 (by simp)
      have q0 := (q5).cell 0
      have q1 := (q5).cell 1
      simp only [List.getElem?_toArray, List.getElem?_cons_zero, List.getElem?_cons_succ] at q0 q1
      have c5 := bnext c4 p5
      clear T4 F4 c4 z4 y4 b5 p5 q5
      clear t0 t1 t2 t3 t4 t5 f0 f1 f2 f3
      go_wp2_with (go_at_call 39; refine (errno_any _ _).mono ?_; rintro e w' ⟨rfl, rfl⟩)
      go_step3
      refine ⟨rfl, ?_⟩
      go_wp2
      rw [Exit.noGoto_ret]
      go_ret
      exact ⟨rfl, c5⟩
    case true =>
      rw [show fromE l i a = 0 by rw [HF.out]; exact if_pos hin]
      rw [hin] at H3
      simp only [Bool.not_true] at H3
      clear HF hin
      go_enter Tryd.func12, Tryd.ntmps12
      go_wp2_with fail
      refine scope_fwd 0 rfl ?_
      go_wp2_with fail
      refine HG.out.mono ?_
      rintro e w1 ⟨rfl, b1⟩
      have K := HH.out.blk.below b1 HH.out.blk.lt
      have d0 := K.cell 0
      simp only [List.getElem?_toArray, List.getElem?_cons_zero] at d0
      have gl := K.lt
      clear K
      go_wp2_with fail
      refine (asks_any A _ c (w1.heap.size + 1) _ (by simp)).mono ?_
      rintro e w2 ⟨rfl, L2, T2, b2⟩
      have F2 := (Blk.new w1 35 #[.int .u32 na, .int .i64 nl, .int .u32 ad, .bool true]).below b2 (by simp)
      have c2 := bnext (balloc b1 (.cells #[.int .u32 na, .int .i64 nl, .int .u32 ad, .bool true] 35)) b2
      unfold askC at T2
      have t0 := (T2).cell 0
      have t1 := (T2).cell 1
      have t2 := (T2).cell 2
      have t3 := (T2).cell 3
      have t4 := (T2).cell 4
      have t5 := (T2).cell 5
      simp only [List.getElem?_toArray, List.getElem?_cons_zero, List.getElem?_cons_succ] at t0 t1 t2 t3 t4 t5
      have f0 := (F2).cell 0
      have f1 := (F2).cell 1
      have f2 := (F2).cell 2
      have f3 := (F2).cell 3
      simp only [List.getElem?_toArray, List.getElem?_cons_zero, List.getElem?_cons_succ] at f0 f1 f2 f3
      have z2 := T2.lt
      have y2 := F2.lt
      clear d0 gl b1 b2
      go_wp2_with fail
      refine wp_loop_rounds 4 ?_
      rw [rounds_succ]
      go_wp2_with fail
      refine (H1.out _).mono ?_
      rintro e w3 ⟨rfl, b3⟩
      have p3 := bnext (balloc (Below.refl _ w2) _) b3
      have L3 := L2.below p3 L2.lt
      have T3 := T2.below p3 T2.lt
      have F3 := F2.below p3 F2.lt
      have q3 := (Blk.new w2 84 #[.iface 27 (.int .i64 190), .func (.func 57) #[] #[]]).below b3 (by simp)
      have q0 := (q3).cell 0
      have q1 := (q3).cell 1
      simp only [List.getElem?_toArray, List.getElem?_cons_zero, List.getElem?_cons_succ] at q0 q1
      have c3 := bnext c2 p3
      clear L2 T2 F2 c2 z2 y2 b3 p3 q3
      clear t0 t1 t2 t3 t4 t5 f0 f1 f2 f3
      have t0 := (T3).cell 0
      have t1 := (T3).cell 1
      have t2 := (T3).cell 2
      have t3 := (T3).cell 3
      have t4 := (T3).cell 4
      have t5 := (T3).cell 5
      simp only [List.getElem?_toArray, List.getElem?_cons_zero, List.getElem?_cons_succ] at t0 t1 t2 t3 t4 t5
      have f0 := (F3).cell 0
      have f1 := (F3).cell 1
      have f2 := (F3).cell 2
      have f3 := (F3).cell 3
      simp only [List.getElem?_toArray, List.getElem?_cons_zero, List.getElem?_cons_succ] at f0 f1 f2 f3
      have z3 := T3.lt
      have y3 := F3.lt
      clear q0 q1
      go_wp2_with fail
      rw [rounds_succ]
      go_wp2_with fail
      refine (ask2_any l l.length c w.heap.size (w1.heap.size + 1) rfl A na nl ad true a _ (L3.alloc _) ((HR.out.below c3).alloc c3.size _) (Nat.le_trans c3.size (balloc (Below.refl _ _) _).size) (by omega)).mono ?_
      rintro e w4 ⟨rfl, b4⟩
      have p4 := bnext (balloc (Below.refl _ w3) _) b4
      have T4 := T3.below p4 T3.lt
      have F4 := F3.below p4 F3.lt
      have q4 := (Blk.new w3 84 #[.iface 27 (.int .i64 191), .func (.func 58) #[] #[.pointer (some ⟨w1.heap.size + 1, 0, none⟩)]]).below b4 (by simp)
      have q0 := (q4).cell 0
      have q1 := (q4).cell 1
      simp only [List.getElem?_toArray, List.getElem?_cons_zero, List.getElem?_cons_succ] at q0 q1
      have c4 := bnext c3 p4
      clear L3 T3 F3 c3 z3 y3 b4 p4 q4
      clear t0 t1 t2 t3 t4 t5 f0 f1 f2 f3
      have t0 := (T4).cell 0
      have t1 := (T4).cell 1
      have t2 := (T4).cell 2
      have t3 := (T4).cell 3
      have t4 := (T4).cell 4
      have t5 := (T4).cell 5
      simp only [List.getElem?_toArray, List.getElem?_cons_zero, List.getElem?_cons_succ] at t0 t1 t2 t3 t4 t5
      have f0 := (F4).cell 0
      have f1 := (F4).cell 1
      have f2 := (F4).cell 2
      have f3 := (F4).cell 3
      simp only [List.getElem?_toArray, List.getElem?_cons_zero, List.getElem?_cons_succ] at f0 f1 f2 f3
      have z4 := T4.lt
      have y4 := F4.lt
      rw [HOW.out]
      clear q0 q1
      go_wp2_with fail
      rw [rounds_succ]
      go_wp2_with fail
      refine (H3.out _).mono ?_
      rintro e w5 ⟨rfl, b5⟩
      have p5 := bnext (balloc (Below.refl _ w4) _) b5
      have T5 := T4.below p5 T4.lt
      have q5 := (Blk.new w4 84 #[.iface 27 (.int .i64 192), .func (.func 59) #[] #[]]).below b5 (by simp)
      have q0 := (q5).cell 0
      have q1 := (q5).cell 1
      simp only [List.getElem?_toArray, List.getElem?_cons_zero, List.getElem?_cons_succ] at q0 q1
      have c5 := bnext c4 p5
      clear T4 F4 c4 z4 y4 b5 p5 q5
      clear t0 t1 t2 t3 t4 t5 f0 f1 f2 f3
      clear q0 q1
      go_wp2_with fail
      rw [rounds_succ]
      go_wp2_with fail
      rw [jump_ret]
      go_ret
      exact ⟨rfl, c5⟩
end Go.Proofs.YtfgbliglgdkgpaaDoor
