/- rows: what is gone over is the document's. -/
import Derived.Test.YtgdkobknjgbdbaaFl9
import Derived.Test.YtgdkobknjgbdbaaRngS
namespace Go.Proofs.Ytgdkobknjgbdbaa
set_option linter.unusedVariables false
set_option linter.unusedSimpArgs false
open Go.RowKit Go.Shelf
attribute [local go_sem] Oper.semAt_some
set_option maxRecDepth 100000

/-- the loop's variables: a place, and a mail in a block of its own -/
def AxM (Bn n₀ : Nat) (rs : List Ml) (mk : Nat × Ml → Nat → Act) (pre : List (Nat × Ml)) (x : Nat × Ml) (a' : Act) (W : World) : Prop :=
  ∃ Bx, Bn < Bx ∧ Blk W Bx 33 (mlA x.2) ∧ a' = mk x Bx ∧ x.1 = pre.length ∧ rs[x.1]?.map (·.m) = some x.2.m ∧ RdP W (fun _ => True) x.2.A (x.2.m.bs.map b8) ∧ x.2.m.bs.length ≤ x.2.c ∧ x.2.c ≤ maxLen
theorem AxM.put {Bn n₀ L : Nat} {rs : List Ml} {mk : Nat × Ml → Nat → Act} {pre : List (Nat × Ml)} {x : Nat × Ml} {a' : Act} {W W' : World} (h : AxM Bn n₀ rs mk pre x a' W) (hl : ∃ r, W.heap[L]? = some (.loop r)) (hk : ∀ k, k ≠ L → W'.heap[k]? = W.heap[k]?) : AxM Bn n₀ rs mk pre x a' W' := by
  obtain ⟨Bx, h1, h2, h3, h4, h5, h6, h7⟩ := h
  exact ⟨Bx, h1, blk_put h2 hl hk, h3, h4, h5, rdp_put h6 hl hk, h7⟩
/-- between two rounds: what came is counted in a box -/
def RM (W1 : World) (Bn : Nat) (p : Nat → Prop) (pre : List (Nat × Ml)) (W : World) : Prop := (Boxed W Bn 3 (.int .i64 pre.length) ∧ Below Bn W1 W) ∧ p pre.length
def RMX (W1 : World) (Bn : Nat) (id : Nat) (p : Nat → Prop) (c : Code) (pre : List (Nat × Ml)) (W : World) : Prop := c = .exit id ∧ RM W1 Bn p pre W
theorem RM.stable {W1 : World} {Bn : Nat} {p : Nat → Prop} {B : Nat} (h1 : Bn < B) : Stable B (RM W1 Bn p) := fun s W W' hs hb => ⟨⟨boxed_below hs.1.1 hb h1, hs.1.2.trans (hb.mono (by omega))⟩, hs.2⟩
theorem RMX.stable {W1 : World} {Bn id : Nat} {p : Nat → Prop} {B : Nat} (h1 : Bn < B) (c : Code) : Stable B (RMX W1 Bn id p c) := fun s W W' hs hb => ⟨hs.1, RM.stable h1 s W W' hs.2 hb⟩

set_option maxHeartbeats 8000000 in
theorem rows_any (rs ws : List Ml) (hms : msL rs = msL ws) (many : Int) (lb : Array Value) (n k : Nat) (hn : ws.length = n) (A : Option Addr) (w : World) (hA : IsAll w (· < w.heap.size) rs lb) (hw : Rd w w.heap.size A (mlC ws)) (hws : ∀ r ∈ ws, Rd w w.heap.size r.A (r.m.bs.map b8))
    (hnk : n ≤ k) (hk : k ≤ 9223372036854775807) :
    Calls Try.prog 20 #[.func (.func 39) #[] lb, .slice A n k, .int .i64 many] w fun e w' => e = .returned (.bool true) ∧ Below w.heap.size w w' := by
  have hfn : ∀ (lb : Array Value) (w : World), (binOp .eql 38 (.func (.func 39) #[] lb) .nilFunc).run Try.prog w = .ok (.bool false) w := fun _ _ => rfl
  have hN : n = rs.length := by have := congrArg List.length hms; rw [msL_len, msL_len] at this; omega
  have hrs : n ≤ 512 := by rw [hN]; obtain ⟨_, _, _, _, _, _, _, _, _, h, _⟩ := hA; exact h
  have HRN := Lib.hid hN
  have B3 : Below w.heap.size w (((w.alloc (.cells #[.slice A n k] 47)).alloc (.cells #[.int .i64 many] 3)).alloc (.cells #[.bool false] 4)) := balloc (balloc (balloc (Below.refl _ _) _) _) _
  have z0 := ((Boxed.new w 47 (.slice A n k)).alloc (.cells #[.int .i64 many] 3)).alloc (.cells #[.bool false] 4)
  have z1 := (Boxed.new (w.alloc (.cells #[.slice A n k] 47)) 3 (.int .i64 many)).alloc (.cells #[.bool false] 4)
  have z2 := Boxed.new ((w.alloc (.cells #[.slice A n k] 47)).alloc (.cells #[.int .i64 many] 3)) 4 (.bool false)
  simp only [World.size_alloc] at z1 z2
  have X := Lib.hid (And.intro z0 (And.intro z1 (And.intro z2 B3)))
  have HA := Lib.hid hA
  have HW := Lib.hid hw
  have HWS := Lib.hid hws
  have HMS := Lib.hid hms
  have HNW := Lib.hid hn
  clear hA hw hws hms hn z0 z1 z2 B3 hN
  refine (callsIn_wide (n := 6)).1 ?_
  refine callsIn_of_wp_marks Try.func20 rfl trivial ?_ rfl
  simp only [Try.ntmps20, List.size_toArray, List.length_cons, List.length_nil, Nat.reduceAdd, Nat.reduceSub, Array.replicate_succ, Array.replicate_zero, List.push_toArray, List.append_toArray, List.nil_append, List.cons_append]
  gi_wp2_with fail
  have y0 := X.out.1.alloc (.cells #[.int .i64 0] 3)
  have y1 := X.out.2.1.alloc (.cells #[.int .i64 0] 3)
  have y2 := X.out.2.2.1.alloc (.cells #[.int .i64 0] 3)
  have bn0 := Boxed.new (((w.alloc (.cells #[.slice A n k] 47)).alloc (.cells #[.int .i64 many] 3)).alloc (.cells #[.bool false] 4)) 3 (.int .i64 0)
  have bl0 := balloc X.out.2.2.2 (.cells #[.int .i64 0] 3)
  simp only [World.size_alloc] at bn0
  have hsn : ((((w.alloc (.cells #[.slice A n k] 47)).alloc (.cells #[.int .i64 many] 3)).alloc (.cells #[.bool false] 4)).alloc (.cells #[.int .i64 0] 3)).heap.size = w.heap.size + 4 := by simp
  clear X
  have hsn1 : w.heap.size + 4 ≤ ((((w.alloc (.cells #[.slice A n k] 47)).alloc (.cells #[.int .i64 many] 3)).alloc (.cells #[.bool false] 4)).alloc (.cells #[.int .i64 0] 3)).heap.size := Nat.le_of_eq hsn.symm
  have hsn2 : ((((w.alloc (.cells #[.slice A n k] 47)).alloc (.cells #[.int .i64 many] 3)).alloc (.cells #[.bool false] 4)).alloc (.cells #[.int .i64 0] 3)).heap.size ≤ w.heap.size + 4 := Nat.le_of_eq hsn
  clear hsn
  generalize (((w.alloc (.cells #[.slice A n k] 47)).alloc (.cells #[.int .i64 many] 3)).alloc (.cells #[.bool false] 4)).alloc (.cells #[.int .i64 0] 3) = Wn at *
  have Y := Lib.hid (And.intro y0 (And.intro y1 (And.intro y2 (And.intro bn0 bl0))))
  clear y0 y1 y2 bn0 bl0
  refine range_ownE rfl (by omega) (gf := 39) (lb := lb) rfl trivial (enters_of Try.func39 (by kernel_rfl) rfl)
    (all_stops 5 (by omega) w.heap.size rs lb w (Wn.heap.size + 2) HA.out (Nat.le_refl _)) (fun h1 h2 => h1.trans h2) (fun W o h => below_putObj W _ o (by omega)) Y.out.2.2.2.2 (fun _ => rfl)
    (RM Wn (w.heap.size + 3) (fun c => c = 0 ∨ (c : Int) < many)) (RMX Wn (w.heap.size + 3) 0 (fun c => 0 < c ∧ many ≤ c ∧ (c = 1 ∨ (c : Int) - 1 < many))) (RM.stable (by omega)) (fun c => RMX.stable (by omega) c) ⟨⟨Y.out.2.2.2.1, Below.refl _ _⟩, by simp⟩ (fun W W' hs hb => hb.mono (by omega))
    (AxM (w.heap.size + 3) w.heap.size rs ?a10) (fun pre x a' W W' h hl hk => h.put hl hk) ?assign ?body ?done ?stop
  case assign =>
    rintro lp pre x W K hI ⟨e1, e2, e3, e4, e5, e6⟩ hsz hK
    have E1 := Lib.hid e1
    have E2 := Lib.hid e2
    clear e1 e2
    simp only [alE, mlA]
    gi_wp2
    obtain ⟨Bx, hBx⟩ : ∃ Bx, W.heap.size = Bx := ⟨_, rfl⟩
    have bX := Blk.new W 33 (mlA x.2)
    have bb := balloc (Below.refl W.heap.size W) (.cells (mlA x.2) 33)
    have e3' : RdP (W.alloc (.cells (mlA x.2) 33)) (fun _ => True) x.2.A (x.2.m.bs.map b8) := ((e3.below bb).more bb.size).to (fun _ _ _ => trivial)
    rw [hBx] at bX ⊢
    have hK' := hK (?a10 x Bx) _ bb ⟨Bx, by omega, bX, rfl, E1.out, E2.out, e3', e5, e6⟩
    exact hK'
  case body =>
    rintro lp pre x a' W ⟨⟨hn, hbW⟩, hp⟩ ⟨Bx, hBx, bX, rfl, e1, e2, e3, e5, e6⟩ hlt
    try dsimp only at hp
    try dsimp only
    obtain ⟨xi, ⟨xm, xA, xc⟩⟩ := x
    simp only at e1 e2 e3 e5 e6 bX
    subst e1
    have hlw : pre.length < ws.length := by rw [HNW.out, HRN.out]; exact hlt
    have hln : pre.length < n := by rw [← HNW.out]; exact hlw
    have hym : ws[pre.length].m = xm := by
      have h1 : (msL rs)[pre.length]? = (msL ws)[pre.length]? := by rw [HMS.out]
      rw [msL_get?, msL_get?, e2, List.getElem?_eq_getElem hlw] at h1
      simpa using h1.symm
    have hb2 : Below w.heap.size w W := Y.out.2.2.2.2.trans (hbW.mono (by omega))
    have hyr := HWS.out ws[pre.length] (List.getElem_mem hlw)
    obtain ⟨b, off, hAe, hbb, c0, c1, c2, c3, c4, c5⟩ := ml_at HW.out (List.getElem?_eq_getElem hlw)
    obtain ⟨yr, hyrd⟩ : ∃ yr, ws[pre.length] = yr := ⟨_, rfl⟩
    rw [hyrd] at hym hyr c0 c1 c2 c3 c4 c5
    obtain ⟨ym, yA, yc⟩ := yr
    simp only at hym hyr c0 c1 c2 c3 c4 c5
    subst hym
    have hsz : w.heap.size ≤ W.heap.size := hb2.size
    have RS := fun v : Sub W => refsame_any ⟨ym, xA, xc⟩ ⟨ym, yA, yc⟩ v.1 ((e3.rd.below v.2).more v.2.size) ((hyr.below (hb2.trans (v.2.mono hsz))).more (Nat.le_trans hsz v.2.size))
    simp only [sameM_self, mlA] at RS
    have HRS := Lib.hid RS
    have z7 := hn.lt
    have p0 := fun v : Sub W => (hb2.trans (v.2.mono hsz)).cell (p := ⟨b, off + pre.length * 6, none⟩) hbb |>.trans c0
    have p1 := fun v : Sub W => (hb2.trans (v.2.mono hsz)).cell (p := ⟨b, off + pre.length * 6 + 1, none⟩) hbb |>.trans c1
    have p2 := fun v : Sub W => (hb2.trans (v.2.mono hsz)).cell (p := ⟨b, off + pre.length * 6 + 2, none⟩) hbb |>.trans c2
    have p3 := fun v : Sub W => (hb2.trans (v.2.mono hsz)).cell (p := ⟨b, off + pre.length * 6 + 3, none⟩) hbb |>.trans c3
    have p4 := fun v : Sub W => (hb2.trans (v.2.mono hsz)).cell (p := ⟨b, off + pre.length * 6 + 4, none⟩) hbb |>.trans c4
    have p5 := fun v : Sub W => (hb2.trans (v.2.mono hsz)).cell (p := ⟨b, off + pre.length * 6 + 5, none⟩) hbb |>.trans c5
    have q0 := fun v : Sub W => (boxed_below (boxed_below Y.out.1 hbW (by omega)) v.2 (by omega)).cell
    have q7 := fun v : Sub W => (boxed_below hn v.2 hn.lt).cell
    unfold mlA at bX
    have m0 := fun v : Sub W => ((bX).below v.2 (bX).lt).cell 0
    have m1 := fun v : Sub W => ((bX).below v.2 (bX).lt).cell 1
    have m2 := fun v : Sub W => ((bX).below v.2 (bX).lt).cell 2
    have m3 := fun v : Sub W => ((bX).below v.2 (bX).lt).cell 3
    have m4 := fun v : Sub W => ((bX).below v.2 (bX).lt).cell 4
    have m5 := fun v : Sub W => ((bX).below v.2 (bX).lt).cell 5
    simp only [List.getElem?_toArray, List.getElem?_cons_zero, List.getElem?_cons_succ] at m0 m1 m2 m3 m4 m5
    have hne : Nonempty (Sub W) := ⟨⟨_, Below.refl _ _⟩⟩
    have hi1 : ((pre.length : Int) != pre.length) = false := by simp
    have hi2 : decide (n ≤ pre.length) = false := by simp; omega
    have hi3 : decide ((n : Int) ≤ pre.length) = false := by simp; omega
    have hi4 : (0 : Int) ≤ pre.length ∧ (pre.length : Int) < (n : Int) := by omega
    have hBX := bX
    clear RS c0 c1 c2 c3 c4 c5 hyr e2 e5 e6 bX hyrd
    subst hAe
    try dsimp only
    gi_wp2_with fail
    refine region_round_sub rfl (by kernel_rfl) (by kernel_rfl) (by kernel_rfl) ?_
    repeat (first | gi_big_quiet_step ((gi_at_call 23; exact callsIn_wide.2 (sub_below (HRS.out _)))) | (refine wpQuietIn_step (fun _ _ _ _ => trivial) (fun K hK => ?_); go_simp; apply Exists.intro; refine ⟨fun _ => ?_, hK _ ?_⟩; (gi_at_call 23; exact callsIn_wide.2 (sub_below (HRS.out _))); clear hK K))
    refine wpQuietIn_nil ?_
    rintro _ ⟨v, rfl⟩
    obtain ⟨Wq, bq⟩ := v
    simp only
    have KQ : KeepsFrom Wn.heap.size W Wq := keeps_below bq
    have BQ : Below (w.heap.size + 3) W Wq := bq.mono (by omega)
    have hnq : Boxed Wq (w.heap.size + 3) 3 (.int .i64 pre.length) := boxed_below hn bq hn.lt
    have hbWq : Below (w.heap.size + 3) Wn Wq := hbW.trans BQ
    have q5 : Wq.cell? ⟨w.heap.size + 1, 0, none⟩ = some (.int .i64 many) := (boxed_below (boxed_below Y.out.2.1 hbW (by omega)) bq (by omega)).cell
    have qn := hnq.cell
    have kn := hnq.frozen
    have hIn : Boxed (Wq.setCell ⟨w.heap.size + 3, 0, none⟩ (.int .i64 (pre.length + 1 : Nat))) (w.heap.size + 3) 3 (.int .i64 (pre.length + 1 : Nat)) := hnq.set _
    have hBn : Below (w.heap.size + 3) Wn (Wq.setCell ⟨w.heap.size + 3, 0, none⟩ (.int .i64 (pre.length + 1 : Nat))) := hbWq.setCell (p := ⟨w.heap.size + 3, 0, none⟩) (Nat.le_refl _) _
    have KF : KeepsFrom Wn.heap.size W (Wq.setCell ⟨w.heap.size + 3, 0, none⟩ (.int .i64 (pre.length + 1 : Nat))) := KQ.trans ((KeepsOthers.setCell _ _ _).from _)
    have KB : Below w.heap.size W (Wq.setCell ⟨w.heap.size + 3, 0, none⟩ (.int .i64 (pre.length + 1 : Nat))) := (BQ.mono (by omega)).setCell (p := ⟨w.heap.size + 3, 0, none⟩) (by show w.heap.size ≤ w.heap.size + 3; omega) _
    have q52 : (Wq.setCell ⟨w.heap.size + 3, 0, none⟩ (.int .i64 (pre.length + 1 : Nat))).cell? ⟨w.heap.size + 1, 0, none⟩ = some (.int .i64 many) := (World.cell?_setCell_far Wq ⟨w.heap.size + 3, 0, none⟩ ⟨w.heap.size + 1, 0, none⟩ _ (by show w.heap.size + 3 ≠ w.heap.size + 1; omega)).trans q5
    have hlen : (pre ++ [((pre.length, ⟨ym, xA, xc⟩) : Nat × Ml)]).length = pre.length + 1 := by simp
    have qn2 := hIn.cell
    simp only [Int.natCast_add, Int.natCast_one] at qn2 q52 hIn hBn KF KB
    have FI := Lib.hid (And.intro hIn (And.intro hBn (And.intro KF KB)))
    have HLN := Lib.hid hlen
    clear hIn hBn KF KB hlen m0 m1 m2 m3 m4 m5 p0 p1 p2 p3 p4 p5 q0 q7 hne hi1 hi2 hi3 hi4 KQ BQ hnq hbWq q5 hBX hn hbW hb2 e3
    by_cases hmany : many ≤ (pre.length : Int) + 1
    · gi_wp2
      refine ⟨FI.out.2.2.1, rfl, ⟨?_, FI.out.2.1⟩, ?_⟩
      · rw [HLN.out]; simpa using FI.out.1
      · rw [HLN.out]; omega
    · gi_wp2
      refine ⟨FI.out.2.2.1, FI.out.2.2.2, ⟨?_, FI.out.2.1⟩, ?_⟩
      · rw [HLN.out]; simpa using FI.out.1
      · rw [HLN.out]; omega
  case done =>
    rintro D0 ys Wm hD0 hys ⟨⟨hn, hbW⟩, hp⟩ hK0
    rw [hys, ← HRN.out] at hn hp
    have hcnt0 : (n : Int) = min (n : Int) (max 1 many) := by omega
    obtain ⟨cnt, hcd⟩ : ∃ cnt, cnt = n := ⟨_, rfl⟩
    rw [← hcd] at hn
    have hcnt : (cnt : Int) = min (n : Int) (max 1 many) := by rw [hcd]; exact hcnt0
    clear hcd hcnt0 hp hys
    have t0 := (boxed_below Y.out.1 hbW (by omega)).cell
    have t1 := (boxed_below Y.out.2.1 hbW (by omega)).cell
    have t2 := boxed_below Y.out.2.2.1 hbW (by omega)
    have t2c := t2.cell
    have t2f := t2.frozen
    have tn := hn.cell
    have bm : Below w.heap.size w Wm := Y.out.2.2.2.2.trans (hbW.mono (by omega))
    have hq1 : (cnt : Int) ≤ n := by omega
    have hq2 : (cnt : Int) ≤ many ∨ (many ≤ 1 ∧ (cnt : Int) ≤ 1) := by omega
    have hq3 : (n : Int) ≤ cnt ∨ (many ≤ cnt ∧ 1 ≤ (cnt : Int)) := by omega
    have HCN := Lib.hid hcnt
    clear hcnt
    gi_wp2
    all_goals
      first
      | rw [show ((cnt : Int) == many) = true by rw [beq_iff_eq]; have := HCN.out; omega]
      | rw [show ((cnt : Int) == (n : Int)) = true by rw [beq_iff_eq]; have := HCN.out; omega]
      | rw [show ((cnt : Int) == 1) = true by rw [beq_iff_eq]; have := HCN.out; omega]
      have K0 := (KeepsOthers.setCell Wm ⟨w.heap.size + 1 + 1, 0, none⟩ (.bool true)).same D0 _ hK0 rfl
      have r9 := (t2.set (.bool true)).cell
      have b10 : Below w.heap.size w (Wm.setCell ⟨w.heap.size + 1 + 1, 0, none⟩ (.bool true)) := bm.setCell (p := ⟨w.heap.size + 1 + 1, 0, none⟩) (by show w.heap.size ≤ w.heap.size + 1 + 1; omega) _
      generalize Wm.setCell ⟨w.heap.size + 1 + 1, 0, none⟩ (.bool true) = wz at *
      have r10 := cell_kept r9 (grownBy_putObj' _ D0 (.deferred none)) (fun r e => by cases e; exact ⟨_, K0, rfl⟩)
      refine ⟨by simp, .inl ⟨_, _, rfl, run_takeDeferred K0, ?_⟩⟩
      refine ⟨.bool true, by simp [results, Try.f20, go_sem, r10], rfl, ?_⟩
      exact b10.trans (belowK_b (w := w) (Nat.le_refl _) _ D0 _ _ (by omega) K0 rfl rfl)
  case stop =>
    rintro D0 cc pre Wm hD0 hpre ⟨rfl, ⟨hn, hbW⟩, hp⟩ hK0
    have hpn : pre.length ≤ n := by rw [HRN.out]; exact hpre
    have hcnt : (pre.length : Int) = min (n : Int) (max 1 many) := by omega
    obtain ⟨cnt, hcd⟩ : ∃ cnt, cnt = pre.length := ⟨_, rfl⟩
    rw [← hcd] at hn hcnt
    clear hcd hp hpre hpn
    have t0 := (boxed_below Y.out.1 hbW (by omega)).cell
    have t1 := (boxed_below Y.out.2.1 hbW (by omega)).cell
    have t2 := boxed_below Y.out.2.2.1 hbW (by omega)
    have t2c := t2.cell
    have t2f := t2.frozen
    have tn := hn.cell
    have bm : Below w.heap.size w Wm := Y.out.2.2.2.2.trans (hbW.mono (by omega))
    have hq1 : (cnt : Int) ≤ n := by omega
    have hq2 : (cnt : Int) ≤ many ∨ (many ≤ 1 ∧ (cnt : Int) ≤ 1) := by omega
    have hq3 : (n : Int) ≤ cnt ∨ (many ≤ cnt ∧ 1 ≤ (cnt : Int)) := by omega
    have HCN := Lib.hid hcnt
    clear hcnt
    gi_wp2
    all_goals
      first
      | rw [show ((cnt : Int) == many) = true by rw [beq_iff_eq]; have := HCN.out; omega]
      | rw [show ((cnt : Int) == (n : Int)) = true by rw [beq_iff_eq]; have := HCN.out; omega]
      | rw [show ((cnt : Int) == 1) = true by rw [beq_iff_eq]; have := HCN.out; omega]
      have K0 := (KeepsOthers.setCell Wm ⟨w.heap.size + 1 + 1, 0, none⟩ (.bool true)).same D0 _ hK0 rfl
      have r9 := (t2.set (.bool true)).cell
      have b10 : Below w.heap.size w (Wm.setCell ⟨w.heap.size + 1 + 1, 0, none⟩ (.bool true)) := bm.setCell (p := ⟨w.heap.size + 1 + 1, 0, none⟩) (by show w.heap.size ≤ w.heap.size + 1 + 1; omega) _
      generalize Wm.setCell ⟨w.heap.size + 1 + 1, 0, none⟩ (.bool true) = wz at *
      have r10 := cell_kept r9 (grownBy_putObj' _ D0 (.deferred none)) (fun r e => by cases e; exact ⟨_, K0, rfl⟩)
      refine ⟨by simp, .inl ⟨_, _, rfl, run_takeDeferred K0, ?_⟩⟩
      refine ⟨.bool true, by simp [results, Try.f20, go_sem, r10], rfl, ?_⟩
      exact b10.trans (belowK_b (w := w) (Nat.le_refl _) _ D0 _ _ (by omega) K0 rfl rfl)
end Go.Proofs.Ytgdkobknjgbdbaa
