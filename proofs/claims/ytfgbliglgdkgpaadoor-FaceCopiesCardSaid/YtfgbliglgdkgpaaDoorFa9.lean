/- face: none, Get, Set, Own, To, Len, Copy. -/
import Derived.Test.YtfgbliglgdkgpaaDoorFa8
import Derived.StillTailTactics
namespace Go.Proofs.YtfgbliglgdkgpaaDoor
set_option linter.unusedVariables false
set_option linter.unusedSimpArgs false
open Go.RowKit
set_option maxRecDepth 100000
theorem Fs.below {w w' : World} {n0 g : Nat} {v : Value} {l : List Fc} (h : Fs w n0 g v l) (hb : Below w.heap.size w w') : Fs w' n0 g v l :=
  ⟨h.blk.below hb h.blk.lt, own_below h.own hb, h.ge, h.len, h.fit, h.apart⟩
theorem Fs.drewN {w : World} {n0 g : Nat} {v : Value} {l : List Fc} (h : Fs w n0 g v l) (n : Nat) : Fs (w.drewN n) n0 g v l := ⟨h.blk, h.own, h.ge, h.len, h.fit, h.apart⟩
theorem Fs.row {w : World} {n0 g : Nat} {v : Value} {l : List Fc} (h : Fs w n0 g v l) : ∃ A c, v = .slice A l.length c ∧ l.length ≤ c ∧ c ≤ maxLen ∧ Rd w w.heap.size A (fcC l) ∧ (∀ a, A = some a → n0 ≤ a.block) := own_row h.own
/-- a face, or none -/
def fZ : Fc := ⟨0, 0, 0, false⟩
def getF (l : List Fc) (i : Int) : Fc := if 0 ≤ i ∧ i < l.length then l.getD i.toNat fZ else fZ
def getE (l : List Fc) (i : Int) : Int := if 0 ≤ i ∧ i < l.length then 0 else 4
def setL (l : List Fc) (i : Int) (up : Bool) : List Fc := if 0 ≤ i ∧ i < l.length then l.set i.toNat { l.getD i.toNat fZ with up := up } else l

theorem fnone_nil (w : World) : Calls Tryd.prog 40 #[.pointer none] w fun e w' => e = .returned (.bool true) ∧ w = w' := by
  go_enter Tryd.func40, Tryd.ntmps40
  go_wp2
  go_ret
  exact ⟨rfl, rfl⟩
theorem fnone_any {w : World} {n0 g : Nat} {v : Value} {l : List Fc} (h : Fs w n0 g v l) : Calls Tryd.prog 40 #[.pointer (some ⟨g, 0, none⟩)] w fun e w' => e = .returned (.bool false) ∧ w = w' := by
  have d1 := h.blk.cell 1
  simp only [List.getElem?_toArray, List.getElem?_cons_zero, List.getElem?_cons_succ] at d1
  clear h
  go_enter Tryd.func40, Tryd.ntmps40
  go_wp2
  go_ret
  exact ⟨rfl, rfl⟩
theorem fhas_any (A : Option Addr) (n c : Nat) (i : Int) (w : World) : Calls Tryd.prog 53 #[.slice A n c, .int .i64 i] w fun e w' => e = .returned (.bool (decide (0 ≤ i ∧ i < n))) ∧ w = w' := by
  by_cases h0 : 0 ≤ i
  · by_cases h1 : i < (n : Int)
    · rw [decide_eq_true ⟨h0, h1⟩]
      have g0 : decide (0 ≤ i) = true := decide_eq_true h0
      have g1 : decide (i < (n : Int)) = true := decide_eq_true h1
      go_enter Tryd.func53, Tryd.ntmps53
      go_wp2
      go_ret
      exact ⟨rfl, rfl⟩
    · rw [decide_eq_false (fun h => h1 h.2)]
      have g0 : decide (0 ≤ i) = true := decide_eq_true h0
      have g1 : decide (i < (n : Int)) = false := decide_eq_false h1
      go_enter Tryd.func53, Tryd.ntmps53
      go_wp2
      go_ret
      exact ⟨rfl, rfl⟩
  · rw [decide_eq_false (fun h => h0 h.1)]
    have g0 : decide (0 ≤ i) = false := decide_eq_false h0
    go_enter Tryd.func53, Tryd.ntmps53
    go_wp2
    go_ret
    exact ⟨rfl, rfl⟩

theorem get_nil (i : Int) (w : World) : Calls Tryd.prog 26 #[.pointer none, .int .i64 i] w fun e w' => e = .returned (.tuple #[.agg #[.int .u32 0, .int .i64 0, .int .u32 0, .bool false], .int .i64 1]) ∧ Below w.heap.size w w' := by
  go_enter Tryd.func26, Tryd.ntmps26
  go_wp2_with fail
  refine scope_fwd 0 rfl ?_
  go_wp2_with (go_at_call 40; refine (fnone_nil _).mono ?_; rintro e w' ⟨rfl, rfl⟩)
  go_step3
  refine ⟨rfl, ?_⟩
  go_wp2
  rw [Exit.noGoto_ret]
  refine bodyPost_ret (v := .tuple #[.agg #[.int .u32 0, .int .i64 0, .int .u32 0, .bool false], .int .i64 1]) (by simp [results, Tryd.results26, go_sem]) rfl ⟨rfl, by go_grown⟩

set_option maxHeartbeats 1000000 in
theorem get_any {w : World} {n0 g : Nat} {v : Value} {l : List Fc} (i : Int) (h : Fs w n0 g v l) : Calls Tryd.prog 26 #[.pointer (some ⟨g, 0, none⟩), .int .i64 i] w fun e w' => e = .returned (.tuple #[.agg #[.int .u32 (getF l i).na, .int .i64 (getF l i).nl, .int .u32 (getF l i).ad, .bool (getF l i).up], .int .i64 (getE l i)]) ∧ Below w.heap.size w w' := by
  obtain ⟨A, c, rfl, hc1, hc2, hr, _⟩ := h.row
  have b1 : Below w.heap.size w (w.alloc (.cells #[.int .u32 0, .int .i64 0, .int .u32 0, .bool false] 35)) := balloc (Below.refl _ _) _
  have HN := Lib.hid (fnone_any (h.below b1))
  have d0 := h.blk.cell 0
  have gl := h.blk.lt
  simp only [List.getElem?_toArray, List.getElem?_cons_zero] at d0
  unfold maxLen at hc2
  clear b1
  by_cases hi : 0 ≤ i ∧ i < (l.length : Int)
  · obtain ⟨k, rfl⟩ := Int.eq_ofNat_of_zero_le hi.1
    have hk : k < l.length := by omega
    have e1 : getF l (k : Int) = l[k] := by unfold getF; rw [if_pos hi, Int.toNat_natCast, List.getD, List.getElem?_eq_getElem hk]; rfl
    have e2 : getE l (k : Int) = 0 := by unfold getE; rw [if_pos hi]
    rw [e1, e2]
    obtain ⟨b, off, rfl, hbb, q0, q1, q2, q3⟩ := fc_at hr (List.getElem?_eq_getElem hk)
    have HD := Lib.hid (decide_eq_true hi)
    have hi1 : (k : Int) < (l.length : Int) := hi.2
    have hi2 : (0 : Int) ≤ (k : Int) := hi.1
    clear e1 e2 hi h hr
    generalize l[k] = x at *
    generalize l.length = n at *
    go_enter Tryd.func26, Tryd.ntmps26
    go_wp2_with fail
    refine scope_fwd 0 rfl ?_
    go_wp2_with fail
    refine HN.out.mono ?_
    rintro e w' ⟨rfl, rfl⟩
    go_wp2_with fail
    refine (fhas_any _ _ _ _ _).mono ?_
    rw [HD.out]
    rintro e w' ⟨rfl, rfl⟩
    go_wp2_with fail
    rw [jump_ret]
    refine bodyPost_ret (v := .tuple #[.agg #[.int .u32 x.na, .int .i64 x.nl, .int .u32 x.ad, .bool x.up], .int .i64 0]) (by simp [results, Tryd.results26, go_sem]) rfl ⟨rfl, by go_grown⟩
  · have e1 : getF l i = fZ := by unfold getF; rw [if_neg hi]
    have e2 : getE l i = 4 := by unfold getE; rw [if_neg hi]
    rw [e1, e2]
    have HD := Lib.hid (decide_eq_false hi)
    clear e1 e2 hi h hr
    generalize l.length = n at *
    go_enter Tryd.func26, Tryd.ntmps26
    go_wp2_with fail
    refine scope_fwd 0 rfl ?_
    go_wp2_with fail
    refine HN.out.mono ?_
    rintro e w' ⟨rfl, rfl⟩
    go_wp2_with fail
    refine (fhas_any _ _ _ _ _).mono ?_
    rw [HD.out]
    rintro e w' ⟨rfl, rfl⟩
    go_wp2_with fail
    go_step3
    refine ⟨rfl, ?_⟩
    go_wp2
    rw [Exit.noGoto_ret]
    refine bodyPost_ret (v := .tuple #[.agg #[.int .u32 0, .int .i64 0, .int .u32 0, .bool false], .int .i64 4]) (by simp [results, Tryd.results26, go_sem]) rfl ⟨rfl, by go_grown⟩

theorem set_nil (i : Int) (up : Bool) (w : World) : Calls Tryd.prog 25 #[.pointer none, .int .i64 i, .bool up] w fun e w' => e = .returned (.tuple #[.bool false, .int .i64 1]) ∧ w = w' := by
  go_enter Tryd.func25, Tryd.ntmps25
  go_wp2_with fail
  refine scope_fwd 0 rfl ?_
  go_wp2_with (go_at_call 40; refine (fnone_nil _).mono ?_; rintro e w' ⟨rfl, rfl⟩)
  go_step3
  refine ⟨rfl, ?_⟩
  go_wp2
  rw [Exit.noGoto_ret]
  go_ret2
  exact ⟨rfl, rfl⟩
theorem fcC_set {l : List Fc} {k : Nat} {x : Fc} (hx : l[k]? = some x) (up : Bool) : (fcC l).set (k * 4 + 3) (.bool up) = fcC (l.set k { x with up := up }) := by
  induction l generalizing k with
  | nil => simp at hx
  | cons y l ih =>
    cases k with
    | zero =>
      simp at hx
      subst hx
      simp [fcC, fcL]
    | succ k =>
      simp at hx
      have := ih hx
      simp only [fcC, List.flatMap_cons, List.set_cons_succ] at this ⊢
      rw [← this]
      simp [fcL, show (k + 1) * 4 + 3 = (k * 4 + 3) + 1 + 1 + 1 + 1 by omega]
/-- what a call on faces leaves alone: all but their row -/
def Gz (w w' : World) (v : Value) : Prop := Fr (fun k => v.ownBlock ≠ some k) w w'

set_option maxHeartbeats 4000000 in
theorem set_any {w : World} {n0 g : Nat} {v : Value} {l : List Fc} (i : Int) (up : Bool) (h : Fs w n0 g v l) : Calls Tryd.prog 25 #[.pointer (some ⟨g, 0, none⟩), .int .i64 i, .bool up] w fun e w' => e = .returned (.tuple #[.bool (getF l i).up, .int .i64 (getE l i)]) ∧ Fs w' n0 g v (setL l i up) ∧ Gz w w' v := by
  obtain ⟨A, c, hv, hc1, hc2, hr, hab⟩ := h.row
  have HN := Lib.hid (fnone_any h)
  have d0 := h.blk.cell 0
  have gl := h.blk.lt
  simp only [List.getElem?_toArray, List.getElem?_cons_zero] at d0
  rw [hv] at d0
  unfold maxLen at hc2
  have HH := Lib.hid h
  have HV := Lib.hid hv
  by_cases hi : 0 ≤ i ∧ i < (l.length : Int)
  · obtain ⟨k, rfl⟩ := Int.eq_ofNat_of_zero_le hi.1
    have hk : k < l.length := by omega
    have e1 : getF l (k : Int) = l[k] := by unfold getF; rw [if_pos hi, Int.toNat_natCast, List.getD, List.getElem?_eq_getElem hk]; rfl
    have e2 : getE l (k : Int) = 0 := by unfold getE; rw [if_pos hi]
    have e3 : setL l (k : Int) up = l.set k { l[k] with up := up } := by unfold setL; rw [if_pos hi, Int.toNat_natCast, List.getD, List.getElem?_eq_getElem hk]; rfl
    rw [e1, e2, e3]
    obtain ⟨b, off, hA, hbb, q0, q1, q2, q3⟩ := fc_at hr (List.getElem?_eq_getElem hk)
    have ho := h.own
    rw [hv, hA] at ho
    have hoff : off = 0 := by
      rcases ho.2 with ⟨hx, _⟩ | ⟨g', cap, cur, hx, _⟩
      · cases hx
      · injection hx with hx; injection hx with hx; injection hx
    subst hoff
    have HO := Lib.hid ho
    have hfz := ho.frozenAt (k * 4 + 3)
    have HST := Lib.hid (ho.stored (k * 4 + 3) (.bool up))
    have HXX := Lib.hid (List.getElem?_eq_getElem hk)
    have HD := Lib.hid (decide_eq_true hi)
    have hi1 : (k : Int) < (l.length : Int) := hi.2
    have hi2 : (0 : Int) ≤ (k : Int) := hi.1
    have HFT := Lib.hid (h.fit l[k] (List.getElem_mem hk))
    rw [Nat.zero_add] at q3
    rw [hA] at d0 HV
    clear e1 e2 e3 hi h hr hv hA ho q0 q1 q2
    generalize l[k] = x at *
    clear hk
    have hbs : b ≠ g := fun e => (HH.out.apart b (by rw [HV.out]; rfl)) e
    generalize hn : l.length = n at *
    have HNN := Lib.hid hn
    clear hn
    go_enter Tryd.func25, Tryd.ntmps25
    go_wp2_with fail
    refine scope_fwd 0 rfl ?_
    go_wp2_with fail
    refine HN.out.mono ?_
    rintro e w' ⟨rfl, rfl⟩
    go_wp2_with fail
    refine (fhas_any _ _ _ _ _).mono ?_
    rw [HD.out]
    rintro e w' ⟨rfl, rfl⟩
    go_wp2_with fail
    go_still_tail 17, (by kernel_rfl)
    change wpList _ _ _ _ _ w.drew
    go_wp2_with fail
    rw [jump_ret]
    go_ret2
    refine ⟨rfl, ?_, ?_⟩
    · have hb2 : Blk (w.setCell ⟨b, k * 4 + 3, none⟩ (.bool up)) g 77 #[v, .bool true] := HH.out.blk.far (p := ⟨b, k * 4 + 3, none⟩) (Ne.symm hbs) _
      have ho2 := HST.out.1
      rw [fcC_set HXX.out, ← HV.out] at ho2
      have hl2 : (l.set k { x with up := up }).length = n := by rw [List.length_set, HNN.out]
      refine Fs.drewN ⟨hb2, by rw [hl2]; exact ho2, HH.out.ge, by rw [hl2, ← HNN.out]; exact HH.out.len, fun f hf => ?_, HH.out.apart⟩ 1
      rcases List.mem_or_eq_of_mem_set hf with hf | rfl
      · exact HH.out.fit f hf
      · exact HFT.out
    · refine Fr.trans (Fr.set (a := ⟨b, k * 4 + 3, none⟩) (fun k' hk' e => ?_) (.bool up)) (Fr.drewN 1)
      subst e
      exact hk' (by rw [HV.out]; rfl)
  · have e1 : getF l i = fZ := by unfold getF; rw [if_neg hi]
    have e2 : getE l i = 4 := by unfold getE; rw [if_neg hi]
    have e3 : setL l i up = l := by unfold setL; rw [if_neg hi]
    rw [e1, e2, e3]
    have HD := Lib.hid (decide_eq_false hi)
    clear e1 e2 e3 hi h hr hv
    generalize l.length = n at *
    go_enter Tryd.func25, Tryd.ntmps25
    go_wp2_with fail
    refine scope_fwd 0 rfl ?_
    go_wp2_with fail
    refine HN.out.mono ?_
    rintro e w' ⟨rfl, rfl⟩
    go_wp2_with fail
    refine (fhas_any _ _ _ _ _).mono ?_
    rw [HD.out]
    rintro e w' ⟨rfl, rfl⟩
    go_wp2_with fail
    go_step3
    refine ⟨rfl, ?_⟩
    go_wp2
    rw [Exit.noGoto_ret]
    go_ret2
    exact ⟨rfl, HH.out, Fr.refl⟩

/-- owns, To, Own -/
def ownB (l : List Fc) (a : Nat) : Bool := l.any fun f => decide (f.ad = a)
def toP (a : Nat) (f : Fc) : Bool := f.up && hasF f.net a
theorem owns_any (l : List Fc) (n c B : Nat) (hn : l.length = n) (A : Option Addr) (a : Nat) (w : World) (hr : Rd w B A (fcC l)) (hB : B ≤ w.heap.size) (hl : n ≤ 1000) :
    Calls Tryd.prog 52 #[.slice A n c, .int .u32 a] w fun e w' => e = .returned (.bool (ownB l a)) ∧ Below w.heap.size w w' := by
  have b1 : Below w.heap.size w (w.alloc (.cells #[.int .u32 a] 24)) := balloc (Below.refl _ _) _
  have HX := Lib.hid (Blk.new w 24 #[.int .u32 a])
  have HF := Lib.hid (ffirst_any l n c B hn A 64 (.pointer (some ⟨w.heap.size, 0, none⟩)) (fun f => decide (f.ad = a)) (w.alloc (.cells #[.int .u32 a] 24)) (hr.alloc hB _) (Nat.le_trans hB b1.size) hl (enters_of Tryd.func64 (by kernel_rfl) rfl)
    (fun W f hW hf => ownc_any f a w.heap.size W (HX.out.below hW HX.out.lt)))
  show Calls _ _ _ _ fun e w' => e = .returned (.bool (l.any fun f => decide (f.ad = a))) ∧ Below w.heap.size w w'
  clear hr hn b1
  generalize (l.any fun f => decide (f.ad = a)) = r at *
  generalize firstF (fun f => decide (f.ad = a)) l = z at *
  go_enter Tryd.func52, Tryd.ntmps52
  go_wp2_with (go_at_call 32; refine HF.out.mono ?_; rintro e w1 ⟨rfl, hb⟩)
  go_ret
  exact ⟨rfl, bnext (balloc (Below.refl _ _) _) hb⟩

theorem to_nil (a : Nat) (w : World) : Calls Tryd.prog 13 #[.pointer none, .int .u32 a] w fun e w' => e = .returned (.tuple #[.int .i64 0, .bool false]) ∧ Below w.heap.size w w' := by
  go_enter Tryd.func13, Tryd.ntmps13
  go_wp2_with (go_at_call 40; refine (fnone_nil _).mono ?_; rintro e w' ⟨rfl, rfl⟩)
  go_ret2
  exact ⟨rfl, balloc (Below.refl _ _) _⟩
theorem to_any {w : World} {n0 g : Nat} {v : Value} {l : List Fc} (a : Nat) (ha : a < 4294967296) (h : Fs w n0 g v l) : Calls Tryd.prog 13 #[.pointer (some ⟨g, 0, none⟩), .int .u32 a] w fun e w' => e = .returned (.tuple #[.int .i64 (firstF (toP a) l : Nat), .bool (l.any (toP a))]) ∧ Below w.heap.size w w' := by
  obtain ⟨A, c, rfl, hc1, hc2, hr, _⟩ := h.row
  have b1 : Below w.heap.size w (w.alloc (.cells #[.int .u32 a] 24)) := balloc (Below.refl _ _) _
  have HX := Lib.hid (Blk.new w 24 #[.int .u32 a])
  have HN := Lib.hid (fnone_any (h.below b1))
  have d0 := h.blk.cell 0
  have gl := h.blk.lt
  simp only [List.getElem?_toArray, List.getElem?_cons_zero] at d0
  have HF := Lib.hid (ffirst_any l l.length c w.heap.size rfl A 41 (.pointer (some ⟨w.heap.size, 0, none⟩)) (toP a) (w.alloc (.cells #[.int .u32 a] 24)) (hr.alloc (Nat.le_refl _) _) b1.size (by have := h.len; omega) (enters_of Tryd.func41 (by kernel_rfl) rfl)
    (fun W f hW hf => toc_any f a w.heap.size W (h.fit f hf) ha (HX.out.below hW HX.out.lt)))
  clear hr h b1
  generalize l.any (toP a) = r at *
  generalize firstF (toP a) l = z at *
  generalize l.length = n at *
  go_enter Tryd.func13, Tryd.ntmps13
  go_wp2_with fail
  refine HN.out.mono ?_
  rintro e w' ⟨rfl, rfl⟩
  go_wp2_with (go_at_call 32; refine HF.out.mono ?_; rintro e w1 ⟨rfl, hb⟩)
  go_ret2
  exact ⟨rfl, bnext (balloc (Below.refl _ _) _) hb⟩
theorem own_nil (a : Nat) (w : World) : Calls Tryd.prog 22 #[.pointer none, .int .u32 a] w fun e w' => e = .returned (.bool false) ∧ w = w' := by
  go_enter Tryd.func22, Tryd.ntmps22
  go_wp2_with (go_at_call 40; refine (fnone_nil _).mono ?_; rintro e w' ⟨rfl, rfl⟩)
  go_ret
  exact ⟨rfl, rfl⟩
theorem own_any9 {w : World} {n0 g : Nat} {v : Value} {l : List Fc} (a : Nat) (h : Fs w n0 g v l) : Calls Tryd.prog 22 #[.pointer (some ⟨g, 0, none⟩), .int .u32 a] w fun e w' => e = .returned (.bool (ownB l a)) ∧ Below w.heap.size w w' := by
  obtain ⟨A, c, rfl, hc1, hc2, hr, _⟩ := h.row
  have HN := Lib.hid (fnone_any h)
  have d0 := h.blk.cell 0
  have gl := h.blk.lt
  simp only [List.getElem?_toArray, List.getElem?_cons_zero] at d0
  have HO := Lib.hid (owns_any l l.length c w.heap.size rfl A a w hr (Nat.le_refl _) (by have := h.len; omega))
  clear hr h
  generalize ownB l a = r at *
  generalize l.length = n at *
  go_enter Tryd.func22, Tryd.ntmps22
  go_wp2_with fail
  refine HN.out.mono ?_
  rintro e w' ⟨rfl, rfl⟩
  go_wp2_with (go_at_call 52; refine HO.out.mono ?_; rintro e w1 ⟨rfl, hb⟩)
  go_ret
  exact ⟨rfl, hb⟩
theorem flen_nil (w : World) : Calls Tryd.prog 27 #[.pointer none] w fun e w' => e = .returned (.int .i64 0) ∧ w = w' := by
  go_enter Tryd.func27, Tryd.ntmps27
  go_wp2_with (go_at_call 40; refine (fnone_nil _).mono ?_; rintro e w' ⟨rfl, rfl⟩)
  go_ret
  exact ⟨rfl, rfl⟩
theorem flen_any {w : World} {n0 g : Nat} {v : Value} {l : List Fc} (h : Fs w n0 g v l) : Calls Tryd.prog 27 #[.pointer (some ⟨g, 0, none⟩)] w fun e w' => e = .returned (.int .i64 l.length) ∧ w = w' := by
  obtain ⟨A, c, rfl, hc1, hc2, hr, _⟩ := h.row
  have HN := Lib.hid (fnone_any h)
  have d0 := h.blk.cell 0
  have gl := h.blk.lt
  simp only [List.getElem?_toArray, List.getElem?_cons_zero] at d0
  clear hr h
  generalize l.length = n at *
  go_enter Tryd.func27, Tryd.ntmps27
  go_wp2_with fail
  refine HN.out.mono ?_
  rintro e w' ⟨rfl, rfl⟩
  go_wp2
  go_ret
  exact ⟨rfl, rfl⟩
theorem fcopy_nil (w : World) : Calls Tryd.prog 28 #[.pointer none] w fun e w' => e = .returned (.pointer none) ∧ w = w' := by
  go_enter Tryd.func28, Tryd.ntmps28
  go_wp2_with (go_at_call 40; refine (fnone_nil _).mono ?_; rintro e w' ⟨rfl, rfl⟩)
  go_ret
  exact ⟨rfl, rfl⟩
theorem fcopy_any {w : World} {n0 g : Nat} {v : Value} {l : List Fc} (h : Fs w n0 g v l) : Calls Tryd.prog 28 #[.pointer (some ⟨g, 0, none⟩)] w fun e w' => (∃ g' v', e = .returned (.pointer (some ⟨g', 0, none⟩)) ∧ Fs w' w.heap.size g' v' l) ∧ Below w.heap.size w w' := by
  obtain ⟨A, c, rfl, hc1, hc2, hr, _⟩ := h.row
  have HN := Lib.hid (fnone_any h)
  have d0 := h.blk.cell 0
  have gl := h.blk.lt
  simp only [List.getElem?_toArray, List.getElem?_cons_zero] at d0
  have HC := Lib.hid (lclone_any l l.length rfl A c w.heap.size w hr (by have := h.len; omega) (Nat.le_refl _))
  have HF := Lib.hid (And.intro h.len h.fit)
  clear hr h
  generalize hn : l.length = n at *
  have HNN := Lib.hid hn
  clear hn
  go_enter Tryd.func28, Tryd.ntmps28
  go_wp2_with fail
  refine HN.out.mono ?_
  rintro e w' ⟨rfl, rfl⟩
  go_wp2_with fail
  refine HC.out.mono ?_
  rintro e w2 ⟨v2, rfl, ho, b2⟩
  obtain ⟨A1, c1, rfl, _⟩ := own_row ho
  go_wp2_with fail
  go_ret
  refine ⟨⟨w2.heap.size, _, rfl, ⟨Blk.new w2 _ _, ?_, b2.size, by rw [HNN.out]; exact HF.out.1, HF.out.2, fun k hk => by have := (own_lt ho) k hk; omega⟩⟩, balloc b2 _⟩
  rw [HNN.out]
  exact own_below ho (balloc (Below.refl _ _) _)
end Go.Proofs.YtfgbliglgdkgpaaDoor
