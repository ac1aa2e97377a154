/- flight: All. -/
import Derived.Test.YtgdkobknjgbdbaaFl8
import Derived.Test.YtgdkobknjgbdbaaRngE
namespace Go.Proofs.Ytgdkobknjgbdbaa
set_option linter.unusedVariables false
set_option linter.unusedSimpArgs false
open Go.RowKit Go.Shelf
attribute [local go_sem] Oper.semAt_some
set_option maxRecDepth 100000

/-- what All hands on: a place, and a mail with bytes of its own -/
def alE (x : Nat × Ml) : Array Value := #[.int .i64 x.1, .agg (mlA x.2)]
def AlG (n₀ : Nat) (rs : List Ml) (pre : List (Nat × Ml)) (x : Nat × Ml) (W : World) : Prop :=
  x.1 = pre.length ∧ rs[x.1]?.map (·.m) = some x.2.m ∧ Rd W W.heap.size x.2.A (x.2.m.bs.map b8) ∧ (∀ a, x.2.A = some a → n₀ ≤ a.block) ∧ x.2.m.bs.length ≤ x.2.c ∧ x.2.c ≤ maxLen

set_option maxHeartbeats 4000000 in
theorem all1_in (n : Nat) (hn : 1 ≤ n) (lb Bl n₀ : Nat) (rs : List Ml) (A : Option Addr) (c : Nat) (hlc : rs.length ≤ c) (hc : c ≤ 9223372036854775807) (hl : rs.length ≤ 1000)
    (J Jx : List (Nat × Ml) → World → Prop) (W : World)
    (hY : ∀ pre x W1, J pre W1 → AlG n₀ rs pre x W1 → W.heap.size ≤ W1.heap.size → pre.length < rs.length → YieldAt Fence.wide (n - 1) Try.prog lb (alE x) W1 fun e W' =>
      (e = .returned (.bool true) ∧ J (pre ++ [x]) W' ∧ Below n₀ W1 W') ∨ (e = .returned (.bool false) ∧ Jx (pre ++ [x]) W'))
    (stJ : Stable W.heap.size J) (hBl : Blk W Bl 67 #[.slice A rs.length c]) (hr : Rd W n₀ A (mlC rs)) (hm : ∀ r ∈ rs, RdP W (· < n₀) r.A (r.m.bs.map b8) ∧ r.m.bs.length ≤ 1048576) (h1 : Bl < n₀) (hn0 : n₀ ≤ W.heap.size) (h0 : J [] W) :
    CallsIn Fence.wide n Try.prog 39 #[.func (.yield lb) #[] #[], .pointer (some ⟨Bl, 0, none⟩)] W fun e W' => (∃ v, e = .returned v) ∧
      ((∃ ys, ys.length = rs.length ∧ J ys W') ∨ (∃ pre, pre.length ≤ rs.length ∧ Jx pre W')) := by
  have cl := hBl.cell 0
  simp only [List.getElem?_toArray, List.getElem?_cons_zero] at cl
  have HR := Lib.hid hr
  have HM := Lib.hid hm
  have HY := Lib.hid hY
  have HST := Lib.hid stJ
  generalize hnn : rs.length = N at *
  have HN := Lib.hid hnn
  clear hr hm hY hnn stJ
  refine callsIn_of_wp Try.func39 rfl trivial ?_ rfl
  simp only [Try.ntmps39, List.size_toArray, List.length_cons, List.length_nil, Nat.reduceAdd, Nat.reduceSub, Array.replicate_succ, Array.replicate_zero, List.push_toArray, List.append_toArray, List.nil_append, List.cons_append]
  refine scope_in ?_
  gi_wp2_with fail
  refine wpIn_label ?_
  gi_wp2
  gi_loopw [7] (fun i wr => ∃ k : Nat, k ≤ N ∧ i = .int .i64 k ∧ Below n₀ W wr ∧ W.heap.size ≤ wr.heap.size ∧ ∃ pre : List (Nat × Ml), Hid (pre.length = k) ∧ J pre wr) (fun i _ => N - (intOf i).toNat)
  case atStart => exact ⟨0, Nat.zero_le _, rfl, Below.refl _ _, Nat.le_refl _, [], Lib.hid rfl, h0⟩
  case round =>
    obtain ⟨k, hk, rfl, hb, hsz, pre, HP, hJ⟩ := hrel
    by_cases hlt : k < N
    · have hcl : k < rs.length := by have := HN.out; omega
      obtain ⟨b, off, rfl, hbb, c0, c1, c2, c3, c4, c5⟩ := ml_at (HR.out.below hb) (List.getElem?_eq_getElem hcl)
      obtain ⟨hmr, hml⟩ := HM.out rs[k] (List.getElem_mem hcl)
      have hmr2 : Rd wr n₀ rs[k].A (rs[k].m.bs.map b8) := Rd.below (fun h0 => by obtain ⟨b, off, e, hp, hc⟩ := hmr h0; exact ⟨b, off, e, hp, hc⟩) hb
      have HG := Lib.hid (show rs[k]?.map (·.m) = some rs[k].m by rw [List.getElem?_eq_getElem hcl]; rfl)
      have HO := Lib.hid (fun V (hV : Below n₀ wr V) (hs : n₀ ≤ V.heap.size) => own_any rs[k].m.link rs[k].m.frm rs[k].m.dst rs[k].m.src rs[k].A rs[k].m.bs.length rs[k].c n₀ rs[k].m.sent rs[k].m.bs rfl V (hmr2.below hV) hs hml)
      have hi1 : (k : Int) < (N : Int) := by omega
      clear hmr hmr2 hml
      generalize rs[k] = r at *
      gi_wp2_with fail
      refine ⟨trivial, ?_⟩
      refine (callsIn_wide.2 (HO.out _ ?_ ?_)).mono ?_
      · exact (Below.refl n₀ wr).alloc (by omega) _
      · simp; omega
      rintro e W1 ⟨A3, c3', rfl, g1, g2, g3, g4, g5⟩
      have bW1 : Below wr.heap.size wr W1 := bnext (balloc (Below.refl _ _) _) g4
      have hJ1 : J pre W1 := HST.out _ _ _ hJ (bW1.mono hsz)
      have hsW1 : W.heap.size ≤ W1.heap.size := Nat.le_trans hsz bW1.size
      obtain ⟨fn, tmps, assign, body, hy, hR⟩ := HY.out pre (k, ⟨r.m, A3, c3'⟩) W1 hJ1 ⟨HP.out.symm, HG.out, g3, fun a e => by have := g5 a e; simp at this; omega, g1, g2⟩ hsW1 (by have := HP.out; omega)
      simp only [alE, mlA] at hy
      have hbW1 : Below n₀ W W1 := hb.trans (bW1.mono (by omega))
      gi_wp2_with fail
      refine hR.mono ?_
      rintro e W3 (⟨rfl, hJ3, hk3⟩ | ⟨rfl, hJx3⟩)
      · have hs3 := hk3.size
        gi_wp2
        go_roundw
        case rel => exact ⟨k + 1, by omega, by go_num, hbW1.trans hk3, Nat.le_trans hsW1 hs3, pre ++ [(k, ⟨r.m, A3, c3'⟩)], Lib.hid (by simp [HP.out]), hJ3⟩
        case measure => simp [intOf]; omega
      · gi_wp2
        rw [Exit.noGoto_normal]
        go_end0
        exact ⟨⟨_, rfl⟩, .inr ⟨_, by simp [HP.out]; omega, hJx3⟩⟩
    · obtain rfl : k = N := by omega
      gi_wp2_with fail
      rw [Exit.noGoto_normal]
      go_end0
      exact ⟨⟨_, rfl⟩, .inl ⟨pre, HP.out, hJ⟩⟩

/-- what All hands back: a function, and in a box the mails as they were; all of it lies in blocks that meet a condition -/
def IsAll (w : World) (p : Nat → Prop) (rs : List Ml) (lb : Array Value) : Prop :=
  ∃ Bl A c, lb = #[.pointer (some ⟨Bl, 0, none⟩)] ∧ Blk w Bl 67 #[.slice A rs.length c] ∧ p Bl ∧ rs.length ≤ c ∧ c ≤ maxLen ∧ RdP w p A (mlC rs) ∧ rs.length ≤ 512 ∧ ∀ r ∈ rs, RdP w p r.A (r.m.bs.map b8) ∧ r.m.bs.length ≤ 1048576
theorem IsAll.fr {w w' : World} {p q r : Nat → Prop} {rs : List Ml} {lb : Array Value} (h : IsAll w p rs lb) (hf : Fr r w w') (h1 : ∀ b, p b → b < w.heap.size → r b) (h2 : ∀ b, p b → b < w.heap.size → q b) : IsAll w' q rs lb := by
  obtain ⟨Bl, A, c, e, k1, k2, k3, k4, k5, k6, k7⟩ := h
  exact ⟨Bl, A, c, e, hf.blk k1 (h1 _ k2 k1.lt), h2 _ k2 k1.lt, k3, k4, k5.fr hf h1 h2, k6, fun x hx => ⟨(k7 x hx).1.fr hf h1 h2, (k7 x hx).2⟩⟩
theorem all_stops (n : Nat) (hn : 1 ≤ n) (n₀ : Nat) (rs : List Ml) (lb : Array Value) (w : World) (hi : Nat) (h0 : IsAll w (· < n₀) rs lb) (hn0 : n₀ ≤ w.heap.size) :
    SeqStopsE Fence.wide n Try.prog 39 lb alE (AlG n₀ rs) (Below n₀) (fun ys => ys.length = rs.length) (fun pre => pre.length ≤ rs.length) rs.length w hi := fun lp J Jx W hW _ stJ _ hY hJ0 => by
  obtain ⟨Bl, A, c, rfl, k1, k2, k3, k4, k5, k6, k7⟩ := h0.fr (q := (· < n₀)) (Fr.of_below (p := fun _ => True) hW) (fun _ _ _ => trivial) (fun _ h _ => h)
  have hs := hW.size
  exact all1_in n hn lp Bl n₀ rs A c k3 (by unfold maxLen at k4; omega) (by omega) J Jx W hY stJ k1 (fun h0 => by obtain ⟨b, off, e, hp, hc⟩ := k5 h0; exact ⟨b, off, e, hp, hc⟩) k7 k2 (by omega) hJ0

theorem all_nil (w : World) : Calls Try.prog 14 #[.pointer none] w fun e w' => ∃ lb, e = .returned (.func (.func 39) #[] lb) ∧ IsAll w' (fun b => w.heap.size ≤ b) [] lb ∧ Below w.heap.size w w' := by
  have hmf : ∀ (fn : Fn) (first cap : Array Value) (w : World), (Instr.makeFunc fn first cap).run Try.prog w = .ok (.func fn first cap) w := fun _ _ _ _ => rfl
  go_enter Try.func14, Try.ntmps14
  go_wp2_with (go_at_call 30; refine (live_nil _).mono ?_; rintro e w' ⟨rfl, rfl⟩)
  go_ret
  exact ⟨_, rfl, ⟨_, none, 0, rfl, Blk.new _ _ _, Nat.le_refl _, by simp, by simp [maxLen], fun h => absurd h (by simp [mlC]), by simp, by simp⟩, balloc (Below.refl _ _) _⟩

set_option maxHeartbeats 1000000 in
theorem all_any {n0 g room lost : Nat} {v : Value} {rs : List Ml} {w : World} (hF : Fl w n0 g v rs room lost) : Calls Try.prog 14 #[.pointer (some ⟨g, 0, none⟩)] w fun e w' => ∃ lb, e = .returned (.func (.func 39) #[] lb) ∧ IsAll w' (Kp g v) rs lb ∧ Below w.heap.size w w' := by
  have hmf : ∀ (fn : Fn) (first cap : Array Value) (w : World), (Instr.makeFunc fn first cap).run Try.prog w = .ok (.func fn first cap) w := fun _ _ _ _ => rfl
  have HL := Lib.hid hF.live
  have HF := Lib.hid hF
  obtain ⟨A, c, hv, hc1, hc2, hR, _⟩ := hF.row
  have b1 : Below w.heap.size w (w.alloc (.cells #[.slice none 0 0] 67)) := balloc (Below.refl _ _) _
  have HC := Lib.hid (uclone_any rs rs.length rfl A c w.heap.size _ (hR.below b1) (by have := hF.len; have := hF.room0.2; omega) b1.size)
  have d0 := hF.blk.cell 0
  have gl := hF.blk.lt
  have hrow := hF.row_lt
  have HB := Lib.hid b1
  have HX := Lib.hid (Blk.new w 67 #[.slice none 0 0])
  simp only [List.getElem?_toArray, List.getElem?_cons_zero] at d0
  rw [hv] at d0
  clear hF hv hR b1
  generalize hnn : rs.length = n at *
  have HN := Lib.hid hnn
  clear hnn
  go_enter Try.func14, Try.ntmps14
  go_wp2_with (first
    | (go_at_call 30; refine (HL.out _ HB.out).mono ?_; rintro e w' ⟨rfl, rfl⟩)
    | (go_at_call 38; refine HC.out.mono ?_; rintro e w2 ⟨v1, rfl, ho, hb⟩; obtain ⟨A3, c3, rfl, q1, q2, q3, q4⟩ := own_row ho; have m0 := (HX.out.below hb HX.out.lt).cell 0; have m1 := (HX.out.below hb HX.out.lt).frozen 0))
  go_ret
  simp only [World.size_alloc] at q4
  have bb := bnext HB.out hb
  have fE : Fr (fun k => k ≠ w.heap.size) w2 (w2.setCell ⟨w.heap.size, 0, none⟩ (.slice A3 n c3)) := Fr.refl.put 0 _
  have f0 : Fr (Kp g v) w (w2.setCell ⟨w.heap.size, 0, none⟩ (.slice A3 n c3)) := (Fr.of_below bb).then_below (fE.below (B := w.heap.size) bb.size (fun b hb => by omega)) (Nat.le_refl _)
  have hb3 := (HX.out.below hb HX.out.lt).set 0 (.slice A3 n c3)
  simp only [List.setIfInBounds_toArray, List.set_cons_zero] at hb3
  have hk : ∀ b, w.heap.size ≤ b → Kp g v b := fun b hb => ⟨by omega, fun e => by have := hrow b e; omega⟩
  have hn := HN.out
  subst hn
  refine ⟨_, rfl, ⟨_, A3, c3, rfl, hb3, hk _ (Nat.le_refl _), q1, q2, ?_, by have := HF.out.len; have := HF.out.room0.2; omega, fun r hr => ⟨(HF.out.mails r hr).1.fr f0 (fun b hb _ => hb) (fun b hb _ => hb), (HF.out.mails r hr).2.2.2⟩⟩, by go_grown⟩
  exact (q3.to (p := fun b => w.heap.size + 1 ≤ b) (fun a e _ => q4 a e)).fr fE (fun b hb _ => by omega) (fun b hb _ => hk b (by omega))
end Go.Proofs.Ytgdkobknjgbdbaa
