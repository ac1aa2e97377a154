/- face: Ups, what it hands on. -/
import Derived.Test.YtfgbliglgdkgpaaDoorFaC
import Derived.Test.YtfgbliglgdkgpaaDoorRngE
import Derived.Test.YtfgbliglgdkgpaaDoorRngS
namespace Go.Proofs.YtfgbliglgdkgpaaDoor
set_option linter.unusedVariables false
set_option linter.unusedSimpArgs false
open Go.RowKit Go.Shelf
attribute [local go_sem] Oper.semAt_some
set_option maxRecDepth 100000
/-- the numbers of the faces that are up, of the first so many -/
def upTo (l : List Fc) (k : Nat) : List Nat := (List.range k).filter fun i => (l.getD i fZ).up
def upsI (l : List Fc) : List Nat := upTo l l.length
theorem upTo_yes {l : List Fc} {k : Nat} (h : (l.getD k fZ).up = true) : upTo l (k + 1) = upTo l k ++ [k] := by
  unfold upTo
  rw [List.range_succ, List.filter_append, List.filter_cons, if_pos h, List.filter_nil]
theorem upTo_no {l : List Fc} {k : Nat} (h : (l.getD k fZ).up = false) : upTo l (k + 1) = upTo l k := by
  unfold upTo
  rw [List.range_succ, List.filter_append, List.filter_cons, if_neg (by rw [h]; simp), List.filter_nil, List.append_nil]
theorem upTo_pre (l : List Fc) (k d : Nat) : upTo l k <+: upTo l (k + d) := by
  induction d with
  | zero => exact List.prefix_rfl
  | succ d ih =>
    refine ih.trans ?_
    rw [← Nat.add_assoc]
    cases h : (l.getD (k + d) fZ).up
    · rw [upTo_no h]; exact List.prefix_rfl
    · rw [upTo_yes h]; exact List.prefix_append _ _
theorem upTo_in {l : List Fc} {k : Nat} (h : k ≤ l.length) : upTo l k <+: upsI l := by
  have := upTo_pre l k (l.length - k)
  rwa [show k + (l.length - k) = l.length by omega] at this
theorem upTo_len (l : List Fc) (k : Nat) : (upTo l k).length ≤ k := by
  have := List.length_filter_le (fun i => (l.getD i fZ).up) (List.range k)
  simpa [upTo] using this
/-- the last one that came -/
def lastI (pre : List Nat) : Int := match pre.getLast? with
  | none => -1
  | some x => x
theorem lastI_snoc (pre : List Nat) (x : Nat) : lastI (pre ++ [x]) = x := by simp [lastI]
theorem up_next {l : List Fc} {pre : List Nat} {x : Nat} (h : pre ++ [x] <+: upsI l) : lastI pre < x ∧ x < l.length ∧ (l.getD x fZ).up = true := by
  have hm : x ∈ upsI l := h.subset (by simp)
  have hs : (pre ++ [x]).Pairwise (· < ·) := (List.Pairwise.sublist h.sublist (List.Pairwise.filter _ List.pairwise_lt_range))
  have h2 := (List.pairwise_append.1 hs).2.2
  unfold upsI upTo at hm
  simp only [List.mem_filter, List.mem_range] at hm
  refine ⟨?_, hm.1, hm.2⟩
  unfold lastI
  cases hl : pre.getLast? with
  | none => simp only; omega
  | some y =>
    have := h2 y (List.mem_of_getLast? hl) x (by simp)
    simp only
    omega
/-- what Ups hands on -/
def upE (l : List Fc) (x : Nat) : Array Value := #[.int .i64 x, .agg (fcA (l.getD x fZ))]
def UpG (l : List Fc) (pre : List Nat) (x : Nat) (_ : World) : Prop := pre ++ [x] <+: upsI l

set_option maxHeartbeats 4000000 in
theorem ups1_in (n : Nat) (hn : 1 ≤ n) (lb Bl n₀ : Nat) (l : List Fc) (A : Option Addr) (c : Nat) (hlc : l.length ≤ c) (hc : c ≤ 9223372036854775807) (hl : l.length ≤ 1000)
    (J Jx : List Nat → World → Prop) (W : World)
    (hY : ∀ pre x W1, J pre W1 → UpG l pre x W1 → W.heap.size ≤ W1.heap.size → pre.length < (upsI l).length → YieldAt Fence.wide (n - 1) Tryd.prog lb (upE l x) W1 fun e W' =>
      (e = .returned (.bool true) ∧ J (pre ++ [x]) W' ∧ Below n₀ W1 W') ∨ (e = .returned (.bool false) ∧ Jx (pre ++ [x]) W'))
    (stJ : Stable W.heap.size J) (hBl : Blk W Bl 75 #[.slice A l.length c]) (hr : Rd W n₀ A (fcC l)) (h1 : Bl < n₀) (hn0 : n₀ ≤ W.heap.size) (h0 : J [] W) :
    CallsIn Fence.wide n Tryd.prog 50 #[.func (.yield lb) #[] #[], .pointer (some ⟨Bl, 0, none⟩)] W fun e W' => (∃ v, e = .returned v) ∧
      ((∃ ys, ys = upsI l ∧ J ys W') ∨ (∃ pre, pre <+: upsI l ∧ Jx pre W')) := by
  have cl := hBl.cell 0
  simp only [List.getElem?_toArray, List.getElem?_cons_zero] at cl
  have HR := Lib.hid hr
  have HY := Lib.hid hY
  have HST := Lib.hid stJ
  generalize hnn : l.length = N at *
  have HN := Lib.hid hnn
  clear hr hY hnn stJ
  refine callsIn_of_wp Tryd.func50 rfl trivial ?_ rfl
  simp only [Tryd.ntmps50, List.size_toArray, List.length_cons, List.length_nil, Nat.reduceAdd, Nat.reduceSub, Array.replicate_succ, Array.replicate_zero, List.push_toArray, List.append_toArray, List.nil_append, List.cons_append]
  refine scope_in ?_
  gi_wp2_with fail
  refine wpIn_label ?_
  gi_wp2
  gi_loopw [7] (fun i wr => ∃ k : Nat, k ≤ N ∧ i = .int .i64 k ∧ Below n₀ W wr ∧ W.heap.size ≤ wr.heap.size ∧ ∃ pre : List Nat, Hid (pre = upTo l k) ∧ J pre wr) (fun i _ => N - (intOf i).toNat)
  case atStart => exact ⟨0, Nat.zero_le _, rfl, Below.refl _ _, Nat.le_refl _, [], Lib.hid rfl, h0⟩
  case round =>
    obtain ⟨k, hk, rfl, hb, hsz, pre, HP, hJ⟩ := hrel
    by_cases hlt : k < N
    · have hcl : k < l.length := by have := HN.out; omega
      obtain ⟨x, hx⟩ : ∃ x, l[k]? = some x := ⟨_, List.getElem?_eq_getElem hcl⟩
      obtain ⟨b, off, rfl, hbb, c0, c1, c2, c3⟩ := fc_at (HR.out.below hb) hx
      have HX := Lib.hid (show l.getD k fZ = x by rw [List.getD, hx]; rfl)
      have hi1 : (k : Int) < (N : Int) := by omega
      obtain ⟨na, nl, ad, up⟩ := x
      simp only at c0 c1 c2 c3
      have bW1 : Below wr.heap.size wr (wr.alloc (.cells #[.int .u32 na, .int .i64 nl, .int .u32 ad, .bool up] 35)) := balloc (Below.refl _ _) _
      have BW := Lib.hid bW1
      have hJ1 := HST.out _ _ _ hJ (bW1.mono hsz)
      have HJ1 := Lib.hid hJ1
      clear hx bW1 hJ1
      cases hup : up
      · subst hup
        have HP2 := Lib.hid (show pre = upTo l (k + 1) by rw [upTo_no (by rw [HX.out]), HP.out])
        gi_wp2
        all_goals (first | (refine ⟨fun _ h => (by cases h), ?_⟩; gi_wp2) | skip)
        go_roundw
        case rel => exact ⟨k + 1, by omega, by go_num, hb.trans (BW.out.mono (by omega)), Nat.le_trans hsz BW.out.size, pre, HP2, HJ1.out⟩
        case measure => simp [intOf]; omega
      · subst hup
        have hP2 : pre ++ [k] = upTo l (k + 1) := by rw [upTo_yes (by rw [HX.out]), HP.out]
        have HP2 := Lib.hid hP2
        have HIN := Lib.hid (show pre ++ [k] <+: upsI l by rw [hP2]; exact upTo_in hcl)
        obtain ⟨fn, tmps, assign, body, hy, hR⟩ := HY.out pre k _ HJ1.out HIN.out (Nat.le_trans hsz BW.out.size) (by have := HIN.out.length_le; simp at this; omega)
        simp only [upE, HX.out, fcA] at hy
        have hbW1 : Below n₀ W _ := hb.trans (BW.out.mono (by omega))
        have HB1 := Lib.hid hbW1
        clear hP2 hbW1 hb hJ
        gi_wp2_with fail
        refine hR.mono ?_
        rintro e W3 (⟨rfl, hJ3, hk3⟩ | ⟨rfl, hJx3⟩)
        · have hs3 := hk3.size
          gi_wp2
          go_roundw
          case rel => exact ⟨k + 1, by omega, by go_num, HB1.out.trans hk3, Nat.le_trans hsz (Nat.le_trans BW.out.size hs3), pre ++ [k], HP2, hJ3⟩
          case measure => simp [intOf]; omega
        · gi_wp2
          rw [Exit.noGoto_normal]
          go_end0
          exact ⟨⟨_, rfl⟩, .inr ⟨_, HIN.out, hJx3⟩⟩
    · obtain rfl : k = N := by omega
      have HP2 := Lib.hid (show pre = upsI l by rw [HP.out]; unfold upsI; rw [HN.out])
      gi_wp2_with fail
      rw [Exit.noGoto_normal]
      go_end0
      exact ⟨⟨_, rfl⟩, .inl ⟨pre, HP2.out, hJ⟩⟩

/-- what Ups hands back: a function, and in a box the faces as they were; all of it lies in blocks that meet a condition -/
def IsUps (w : World) (p : Nat → Prop) (l : List Fc) (lb : Array Value) : Prop :=
  ∃ Bl A c, lb = #[.pointer (some ⟨Bl, 0, none⟩)] ∧ Blk w Bl 75 #[.slice A l.length c] ∧ p Bl ∧ l.length ≤ c ∧ c ≤ maxLen ∧ RdP w p A (fcC l) ∧ l.length ≤ 16
theorem IsUps.fr {w w' : World} {p q r : Nat → Prop} {l : List Fc} {lb : Array Value} (h : IsUps w p l lb) (hf : Fr r w w') (h1 : ∀ b, p b → b < w.heap.size → r b) (h2 : ∀ b, p b → b < w.heap.size → q b) : IsUps w' q l lb := by
  obtain ⟨Bl, A, c, e, k1, k2, k3, k4, k5, k6⟩ := h
  exact ⟨Bl, A, c, e, hf.blk k1 (h1 _ k2 k1.lt), h2 _ k2 k1.lt, k3, k4, k5.fr hf h1 h2, k6⟩
theorem ups_stops (n : Nat) (hn : 1 ≤ n) (n₀ : Nat) (l : List Fc) (lb : Array Value) (w : World) (hi : Nat) (h0 : IsUps w (· < n₀) l lb) (hn0 : n₀ ≤ w.heap.size) :
    SeqStopsE Fence.wide n Tryd.prog 50 lb (upE l) (UpG l) (Below n₀) (fun ys => ys = upsI l) (fun pre => pre <+: upsI l) (upsI l).length w hi := fun lp J Jx W hW _ stJ _ hY hJ0 => by
  obtain ⟨Bl, A, c, rfl, k1, k2, k3, k4, k5, k6⟩ := h0.fr (q := (· < n₀)) (Fr.of_below (p := fun _ => True) hW) (fun _ _ _ => trivial) (fun _ h _ => h)
  have hs := hW.size
  exact ups1_in n hn lp Bl n₀ l A c k3 (by unfold maxLen at k4; omega) (by omega) J Jx W hY stJ k1 (fun h0 => by obtain ⟨b, off, e, hp, hc⟩ := k5 h0; exact ⟨b, off, e, hp, hc⟩) k2 (by omega) hJ0

/-- a call of Ups -/
def UpsP (l : List Fc) (w : World) (e : Ending) (w' : World) : Prop := ∃ lb, e = .returned (.func (.func 50) #[] lb) ∧ IsUps w' (fun b => w.heap.size ≤ b) l lb ∧ Below w.heap.size w w'
theorem ups_nil (w : World) : Calls Tryd.prog 18 #[.pointer none] w (UpsP [] w) := by
  have hmf : ∀ (fn : Fn) (first cap : Array Value) (w : World), (Instr.makeFunc fn first cap).run Tryd.prog w = .ok (.func fn first cap) w := fun _ _ _ _ => rfl
  go_enter Tryd.func18, Tryd.ntmps18
  go_wp2_with (go_at_call 40; refine (fnone_nil _).mono ?_; rintro e w' ⟨rfl, rfl⟩)
  go_ret
  exact ⟨_, rfl, ⟨_, none, 0, rfl, Blk.new _ _ _, Nat.le_refl _, by simp, by simp [maxLen], fun h => absurd h (by simp [fcC]), by simp⟩, balloc (Below.refl _ _) _⟩
set_option maxHeartbeats 1000000 in
theorem ups_some {n0 g : Nat} {v : Value} {l : List Fc} {w : World} (hF : Fs w n0 g v l) : Calls Tryd.prog 18 #[.pointer (some ⟨g, 0, none⟩)] w (UpsP l w) := by
  have hmf : ∀ (fn : Fn) (first cap : Array Value) (w : World), (Instr.makeFunc fn first cap).run Tryd.prog w = .ok (.func fn first cap) w := fun _ _ _ _ => rfl
  obtain ⟨A, c, hv, hc1, hc2, hR, _⟩ := hF.row
  have b1 : Below w.heap.size w (w.alloc (.cells #[.slice none 0 0] 75)) := balloc (Below.refl _ _) _
  have HL := Lib.hid (fnone_any (hF.below b1))
  have HC := Lib.hid (lclone_any l l.length rfl A c w.heap.size _ (hR.below b1) (by have := hF.len; omega) b1.size)
  have d0 := hF.blk.cell 0
  have gl := hF.blk.lt
  have HLN := Lib.hid hF.len
  have HB := Lib.hid b1
  have HX := Lib.hid (Blk.new w 75 #[.slice none 0 0])
  simp only [List.getElem?_toArray, List.getElem?_cons_zero] at d0
  rw [hv] at d0
  clear hF hv hR b1
  generalize hnn : l.length = n at *
  have HN := Lib.hid hnn
  clear hnn
  go_enter Tryd.func18, Tryd.ntmps18
  go_wp2_with (first
    | (go_at_call 40; refine HL.out.mono ?_; rintro e w' ⟨rfl, rfl⟩)
    | (go_at_call 49; refine HC.out.mono ?_; rintro e w2 ⟨v1, rfl, ho, hb⟩; obtain ⟨A3, c3, rfl, q1, q2, q3, q4⟩ := own_row ho; have m0 := (HX.out.below hb HX.out.lt).cell 0; have m1 := (HX.out.below hb HX.out.lt).frozen 0))
  go_ret
  simp only [World.size_alloc] at q4
  have bb := bnext HB.out hb
  have fE : Fr (fun k => k ≠ w.heap.size) w2 (w2.setCell ⟨w.heap.size, 0, none⟩ (.slice A3 n c3)) := Fr.refl.put 0 _
  have hb3 := (HX.out.below hb HX.out.lt).set 0 (.slice A3 n c3)
  simp only [List.setIfInBounds_toArray, List.set_cons_zero] at hb3
  have hn := HN.out
  subst hn
  refine ⟨_, rfl, ⟨_, A3, c3, rfl, hb3, Nat.le_refl _, q1, q2, ?_, HLN.out⟩, by go_grown⟩
  exact (q3.to (p := fun b => w.heap.size + 1 ≤ b) (fun a e _ => q4 a e)).fr fE (fun b hb _ => by omega) (fun b hb _ => by omega)
end Go.Proofs.YtfgbliglgdkgpaaDoor
