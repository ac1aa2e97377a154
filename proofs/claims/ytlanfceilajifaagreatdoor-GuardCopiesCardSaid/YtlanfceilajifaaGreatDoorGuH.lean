/- guard: what All hands on; rows: it is the document's. -/
import Derived.Test.YtlanfceilajifaaGreatDoorGuG
import Derived.Test.YtlanfceilajifaaGreatDoorMD
namespace Go.Proofs.YtlanfceilajifaaGreatDoor
set_option linter.unusedVariables false
set_option linter.unusedSimpArgs false
open Go.RowKit Go.Shelf
attribute [local go_sem] Oper.semAt_some
set_option maxRecDepth 100000
/-- the places of the errors that were counted, of the first so many -/
def alTo (L : List Int) (k : Nat) : List Nat := (List.range k).filter fun i => L.getD i 0 != 0
def alI (L : List Int) : List Nat := alTo L 9
theorem alTo_yes {L : List Int} {k : Nat} (h : L.getD k 0 ≠ 0) : alTo L (k + 1) = alTo L k ++ [k] := by
  unfold alTo
  rw [List.range_succ, List.filter_append, List.filter_cons, if_pos (by simpa using h), List.filter_nil]
theorem alTo_no {L : List Int} {k : Nat} (h : L.getD k 0 = 0) : alTo L (k + 1) = alTo L k := by
  unfold alTo
  rw [List.range_succ, List.filter_append, List.filter_cons, if_neg (by rw [h]; simp), List.filter_nil, List.append_nil]
theorem alTo_pre (L : List Int) (k d : Nat) : alTo L k <+: alTo L (k + d) := by
  induction d with
  | zero => exact List.prefix_rfl
  | succ d ih =>
    refine ih.trans ?_
    rw [← Nat.add_assoc]
    by_cases h : L.getD (k + d) 0 = 0
    · rw [alTo_no h]; exact List.prefix_rfl
    · rw [alTo_yes h]; exact List.prefix_append _ _
theorem alTo_in {L : List Int} {k : Nat} (h : k ≤ 9) : alTo L k <+: alI L := by
  have := alTo_pre L k (9 - k)
  rwa [show k + (9 - k) = 9 by omega] at this
theorem alTo_len (L : List Int) (k : Nat) : (alTo L k).length ≤ k := by
  have := List.length_filter_le (fun i => L.getD i 0 != 0) (List.range k)
  simpa [alTo] using this
/-- the last one that came -/
def lastI (pre : List Nat) : Int := match pre.getLast? with
  | none => -1
  | some x => x
theorem lastI_snoc (pre : List Nat) (x : Nat) : lastI (pre ++ [x]) = x := by simp [lastI]
theorem al_next {L : List Int} {pre : List Nat} {x : Nat} (h : pre ++ [x] <+: alI L) : lastI pre < x ∧ x < 9 ∧ L.getD x 0 ≠ 0 := by
  have hm : x ∈ alI L := h.subset (by simp)
  have hs : (pre ++ [x]).Pairwise (· < ·) := (List.Pairwise.sublist h.sublist (List.Pairwise.filter _ List.pairwise_lt_range))
  have h2 := (List.pairwise_append.1 hs).2.2
  unfold alI alTo at hm
  simp only [List.mem_filter, List.mem_range] at hm
  refine ⟨?_, hm.1, by simpa using hm.2⟩
  unfold lastI
  cases hl : pre.getLast? with
  | none => simp only; omega
  | some y =>
    have := h2 y (List.mem_of_getLast? hl) x (by simp)
    simp only
    omega
/-- what All hands on -/
def alA (x : Nat) : Int := errL16.getD x 0
def alB (L : List Int) (x : Nat) : Int := L.getD x 0
def alE (L : List Int) (x : Nat) : Array Value := #[.int .i64 (alA x), .int .i64 (alB L x)]
def AlG (L : List Int) (pre : List Nat) (x : Nat) (_ : World) : Prop := pre ++ [x] <+: alI L

set_option maxHeartbeats 4000000 in
theorem all1_in (n : Nat) (hn : 1 ≤ n) (lb B n₀ : Nat) (L : List Int) (hL : L.length = 15)
    (J Jx : List Nat → World → Prop) (W : World)
    (hY : ∀ pre x W1, J pre W1 → AlG L pre x W1 → W.heap.size ≤ W1.heap.size → pre.length < (alI L).length → YieldAt Fence.wide (n - 1) Tryz.prog lb (alE L x) W1 fun e W' =>
      (e = .returned (.bool true) ∧ J (pre ++ [x]) W' ∧ Below n₀ W1 W') ∨ (e = .returned (.bool false) ∧ Jx (pre ++ [x]) W'))
    (stJ : Stable W.heap.size J) (hB : Blk W B 65 (cC (L.take 9))) (h1 : B < n₀) (hn0 : n₀ ≤ W.heap.size) (h0 : J [] W) :
    CallsIn Fence.wide n Tryz.prog 69 #[.func (.yield lb) #[] #[], .pointer (some ⟨B, 0, none⟩)] W fun e W' => (∃ v, e = .returned v) ∧
      ((∃ ys, ys = alI L ∧ J ys W') ∨ (∃ pre, pre <+: alI L ∧ Jx pre W')) := by
  obtain ⟨ev, hev⟩ : ∃ ev : Value, ev = (.agg #[.int .i64 4, .int .i64 150, .int .i64 151, .int .i64 152, .int .i64 153, .int .i64 154, .int .i64 190, .int .i64 191, .int .i64 192]) := ⟨_, rfl⟩
  have hix : ∀ (k : Nat) (v : Int) (w : World), errL16[k]? = some v → (Instr.index 139 ev (.int .i64 k)).run Tryz.prog w = .ok (.int .i64 v) w := by
    intro k v w hk
    have h9 : k < 9 := (List.getElem?_eq_some_iff.1 hk).1
    rcases (by omega : k = 0 ∨ k = 1 ∨ k = 2 ∨ k = 3 ∨ k = 4 ∨ k = 5 ∨ k = 6 ∨ k = 7 ∨ k = 8) with rfl | rfl | rfl | rfl | rfl | rfl | rfl | rfl | rfl
    all_goals
      obtain rfl := Option.some.inj hk
      subst hev
      show _ = _
      kernel_rfl
  have HIX := Lib.hid hix
  have HC := Lib.hid (fun W => counted_any W)
  rw [← hev] at HC
  have HB := Lib.hid hB
  have HY := Lib.hid hY
  have HST := Lib.hid stJ
  clear hev hY stJ hB hix
  refine callsIn_of_wp Tryz.func69 rfl trivial ?_ rfl
  simp only [Tryz.ntmps69, List.size_toArray, List.length_cons, List.length_nil, Nat.reduceAdd, Nat.reduceSub, Array.replicate_succ, Array.replicate_zero, List.push_toArray, List.append_toArray, List.nil_append, List.cons_append]
  refine scope_in ?_
  gi_wp2_with fail
  refine wpIn_label ?_
  gi_wp2_with fail
  refine ⟨trivial, ?_⟩
  refine (callsIn_wide.2 (HC.out W)).mono ?_
  rintro e W1 ⟨rfl, b1⟩
  have BW := Lib.hid b1
  have HJ1 := Lib.hid (HST.out _ _ _ h0 b1)
  clear b1 h0
  gi_wp2_with fail
  gi_loopw [6] (fun i wr => ∃ k : Nat, k ≤ 9 ∧ i = .int .i64 k ∧ Below n₀ W wr ∧ W.heap.size ≤ wr.heap.size ∧ ∃ pre : List Nat, Hid (pre = alTo L k) ∧ J pre wr) (fun i _ => 9 - (intOf i).toNat)
  case atStart => exact ⟨0, Nat.zero_le _, rfl, BW.out.mono hn0, BW.out.size, [], Lib.hid rfl, HJ1.out⟩
  case round =>
    obtain ⟨k, hk, rfl, hb, hsz, pre, HP, hJ⟩ := hrel
    by_cases hlt : k < 9
    · obtain ⟨v, hv⟩ : ∃ v, errL16[k]? = some v := ⟨_, List.getElem?_eq_getElem hlt⟩
      have hix1 := fun w => HIX.out k v w hv
      have HV := Lib.hid (show alA k = v by unfold alA; rw [List.getD, hv]; rfl)
      have d0 : decide ((k : Int) < 9) = true := by simp; omega
      have hi0 : (0 : Int) ≤ (k : Int) := by omega
      have hi1 : (k : Int) < 9 := by omega
      have ck := (HB.out.below hb h1).cell k
      rw [show (cC (L.take 9))[k]? = some (.int .i64 (L.getD k 0)) by simp [cC, List.getElem?_take, hlt, List.getD, List.getElem?_eq_getElem (show k < L.length by omega)]] at ck
      clear hv
      by_cases hz : L.getD k 0 = 0
      · have HP2 := Lib.hid (show pre = alTo L (k + 1) by rw [alTo_no hz, HP.out])
        rw [hz] at ck
        clear hz
        gi_wp2
        all_goals (first | (refine ⟨fun _ h => (by cases h), ?_⟩; gi_wp2) | skip)
        go_roundw
        case rel => exact ⟨k + 1, by omega, by go_num, hb, hsz, pre, HP2, hJ⟩
        case measure => simp [intOf]; omega
      · have hP2 : pre ++ [k] = alTo L (k + 1) := by rw [alTo_yes hz, HP.out]
        have HP2 := Lib.hid hP2
        have HIN := Lib.hid (show pre ++ [k] <+: alI L by rw [hP2]; exact alTo_in (by omega))
        obtain ⟨fn, tmps, assign, body, hy, hR⟩ := HY.out pre k _ hJ HIN.out hsz (by have := HIN.out.length_le; simp at this; omega)
        obtain ⟨q, hq⟩ : ∃ q, L.getD k 0 = q := ⟨_, rfl⟩
        simp only [alE, HV.out, show alB L k = q from hq] at hy
        rw [hq] at ck hz
        have dq : (q == 0) = false := by simpa using hz
        have HB1 := Lib.hid hb
        clear hP2 hb hJ hz hq
        gi_wp2_with fail
        all_goals (first | (refine ⟨fun _ h => (by cases h), ?_⟩; gi_wp2_with fail) | skip)
        refine hR.mono ?_
        rintro e W3 (⟨rfl, hJ3, hk3⟩ | ⟨rfl, hJx3⟩)
        · have hs3 := hk3.size
          gi_wp2
          go_roundw
          case rel => exact ⟨k + 1, by omega, by go_num, HB1.out.trans hk3, Nat.le_trans hsz hs3, pre ++ [k], HP2, hJ3⟩
          case measure => simp [intOf]; omega
        · gi_wp2
          rw [Exit.noGoto_normal]
          go_end0
          exact ⟨⟨_, rfl⟩, .inr ⟨_, HIN.out, hJx3⟩⟩
    · obtain rfl : k = 9 := by omega
      have HP2 := Lib.hid (show pre = alI L from HP.out)
      gi_wp2_with fail
      rw [Exit.noGoto_normal]
      go_end0
      exact ⟨⟨_, rfl⟩, .inl ⟨pre, HP2.out, hJ⟩⟩
theorem all_stops (n : Nat) (hn : 1 ≤ n) (n₀ : Nat) (L : List Int) (hL : L.length = 15) (lb : Array Value) (w : World) (hi : Nat) (h0 : IsAll w (· < n₀) L lb) (hn0 : n₀ ≤ w.heap.size) :
    SeqStopsE Fence.wide n Tryz.prog 69 lb (alE L) (AlG L) (Below n₀) (fun ys => ys = alI L) (fun pre => pre <+: alI L) (alI L).length w hi := fun lp J Jx W hW _ stJ _ hY hJ0 => by
  obtain ⟨B, rfl, k1, k2⟩ := h0.fr (q := (· < n₀)) (Fr.of_below (p := fun _ => True) hW) (fun _ _ _ => trivial) (fun _ h _ => h)
  have hs := hW.size
  exact all1_in n hn lp B n₀ L hL J Jx W hY stJ k1 k2 (by omega) hJ0

/-- the loop's variables -/
def AxA (L : List Int) (mk : Nat → Act) (pre : List Nat) (x : Nat) (a' : Act) (_ : World) : Prop := a' = mk x ∧ pre ++ [x] <+: alI L
/-- between two rounds: what came is counted in a box, the last place lies in the next one -/
def RA (W1 : World) (Bn : Nat) (p : Nat → Prop) (pre : List Nat) (W : World) : Prop := (Boxed W Bn 3 (.int .i64 pre.length) ∧ Boxed W (Bn + 1) 3 (.int .i64 (lastI pre)) ∧ Below Bn W1 W) ∧ p pre.length
def RAX (W1 : World) (Bn : Nat) (id : Nat) (p : Nat → Prop) (c : Code) (pre : List Nat) (W : World) : Prop := c = .exit id ∧ RA W1 Bn p pre W
theorem RA.stable {W1 : World} {Bn : Nat} {p : Nat → Prop} {B : Nat} (h1 : Bn + 1 < B) : Stable B (RA W1 Bn p) := fun s W W' hs hb => ⟨⟨boxed_below hs.1.1 hb (by omega), boxed_below hs.1.2.1 hb h1, hs.1.2.2.trans (hb.mono (by omega))⟩, hs.2⟩
theorem RAX.stable {W1 : World} {Bn id : Nat} {p : Nat → Prop} {B : Nat} (h1 : Bn + 1 < B) (c : Code) : Stable B (RAX W1 Bn id p c) := fun s W W' hs hb => ⟨hs.1, RA.stable h1 s W W' hs.2 hb⟩
theorem len_snocA (pre : List Nat) (x : Nat) : (pre ++ [x]).length = pre.length + 1 := by simp
theorem at_back {x : Nat} (hx : x < 9) : atE (alA x) = x := by
  rcases (by omega : x = 0 ∨ x = 1 ∨ x = 2 ∨ x = 3 ∨ x = 4 ∨ x = 5 ∨ x = 6 ∨ x = 7 ∨ x = 8) with rfl | rfl | rfl | rfl | rfl | rfl | rfl | rfl | rfl
  all_goals decide +kernel

set_option maxHeartbeats 8000000 in
theorem rows16_any (L : List Int) (hl : L.length = 15) (hb0 : ∀ x ∈ L, 0 ≤ x ∧ x ≤ 2147483647) (lb : Array Value) (many : Int) (w : World) (hA : IsAll w (· < w.heap.size) L lb) :
    Calls Tryz.prog 29 #[.func (.func 69) #[] lb, .agg (tF (ftal L)), .int .i64 many] w fun e w' => e = .returned (.bool true) ∧ Below w.heap.size w w' := by
  have hfn : ∀ (lb : Array Value) (w : World), (binOp .eql 79 (.func (.func 69) #[] lb) .nilFunc).run Tryz.prog w = .ok (.bool false) w := fun _ _ => rfl
  have B3 : Below w.heap.size w (((w.alloc (.cells (tF (ftal L)) 68)).alloc (.cells #[.int .i64 many] 3)).alloc (.cells #[.bool false] 4)) := balloc (balloc (balloc (Below.refl _ _) _) _) _
  have z0 := ((Blk.new w 68 (tF (ftal L))).alloc (.cells #[.int .i64 many] 3)).alloc (.cells #[.bool false] 4)
  have z1 := (Boxed.new (w.alloc (.cells (tF (ftal L)) 68)) 3 (.int .i64 many)).alloc (.cells #[.bool false] 4)
  have z2 := Boxed.new ((w.alloc (.cells (tF (ftal L)) 68)).alloc (.cells #[.int .i64 many] 3)) 4 (.bool false)
  simp only [World.size_alloc] at z1 z2
  have hs3 : (((w.alloc (.cells (tF (ftal L)) 68)).alloc (.cells #[.int .i64 many] 3)).alloc (.cells #[.bool false] 4)).heap.size = w.heap.size + 3 := by simp
  obtain ⟨w2, hw2e⟩ : ∃ w2, w2 = (((w.alloc (.cells (tF (ftal L)) 68)).alloc (.cells #[.int .i64 many] 3)).alloc (.cells #[.bool false] 4)) := ⟨_, rfl⟩
  rw [← hw2e] at B3 z0 z1 z2 hs3
  have HW2 := Lib.hid hw2e
  have hA2 := hA.fr (q := (· < w2.heap.size)) (Fr.of_below (p := fun _ => True) B3) (fun _ _ _ => trivial) (fun b h _ => by omega)
  have HA := Lib.hid hA2
  have hw2 : w.heap.size + 3 ≤ w2.heap.size := Nat.le_of_eq hs3.symm
  have HC := Lib.hid (fun k v (hk : L[k]? = some v) (h9 : k < 9) => show w2.cell? ⟨w.heap.size, k, none⟩ = some (.int .i64 v) by
    rw [z0.cell k, tF_get _ k (by omega), show ftal L k = v by unfold ftal; rw [if_pos h9, List.getD, hk]; rfl])
  have HBD := Lib.hid hb0
  have HLL := Lib.hid hl
  have Y0 := Lib.hid (And.intro z0 (And.intro z1 (And.intro z2 B3)))
  clear z0 z1 z2 B3 hs3 hw2e hA hA2 hb0 hl
  refine (callsIn_wide (n := 6)).1 ?_
  refine callsIn_of_wp_marks Tryz.func29 rfl trivial ?_ rfl
  simp only [Tryz.ntmps29, List.size_toArray, List.length_cons, List.length_nil, Nat.reduceAdd, Nat.reduceSub, Array.replicate_succ, Array.replicate_zero, List.push_toArray, List.append_toArray, List.nil_append, List.cons_append]
  gi_wp2_with fail
  rw [← HW2.out]
  gi_wp2_with fail
  gi_loop [7, 8] (fun al i => ∃ j : Nat, j ≤ 9 ∧ i = .int .i64 j ∧ al = .int .i64 (alTo L j).length) (fun _ i => 9 - (intOf i).toNat)
  case atStart => exact ⟨0, Nat.zero_le _, rfl, rfl⟩
  case round =>
    obtain ⟨j, hj, rfl, rfl⟩ := hrel
    by_cases hlt : j < 9
    · obtain ⟨v, hv⟩ : ∃ v, L[j]? = some v := ⟨_, List.getElem?_eq_getElem (show j < L.length by have := HLL.out; omega)⟩
      have hg : L.getD j 0 = v := by rw [List.getD, hv]; rfl
      have hc := HC.out j v hv hlt
      have hvb := (HBD.out v (List.mem_of_getElem? hv)).1
      have d0 : decide ((j : Int) < 9) = true := by simp; omega
      have hi0 : (0 : Int) ≤ (j : Int) := by omega
      have hi1 : (j : Int) < 9 := by omega
      have hj4 : (alTo L j).length ≤ j := alTo_len L j
      by_cases hz : v = 0
      · subst hz
        have hu : (alTo L (j + 1)).length = (alTo L j).length := by rw [alTo_no hg]
        have HU := Lib.hid hu
        clear hu hg hv
        generalize (alTo L j).length = q at *
        gi_wp2
        go_round
        case rel => exact ⟨j + 1, by omega, by go_num, by rw [HU.out]⟩
        case measure => simp [intOf]; omega
      · have hu : (alTo L (j + 1)).length = (alTo L j).length + 1 := by rw [alTo_yes (by rw [hg]; exact hz)]; simp
        have HU := Lib.hid hu
        have dz : decide (0 < v) = true := by simp; omega
        clear hu hg hv hz
        generalize (alTo L j).length = q at *
        gi_wp2
        go_round
        case rel => exact ⟨j + 1, by omega, by go_num, by rw [HU.out]; go_num⟩
        case measure => simp [intOf]; omega
    · obtain rfl : j = 9 := by omega
      gi_wp2_with fail
      have v0 := (Y0.out.1.alloc (.cells #[.int .i64 0] 3)).alloc (.cells #[.int .i64 (-1)] 3)
      have v1 := (Y0.out.2.1.alloc (.cells #[.int .i64 0] 3)).alloc (.cells #[.int .i64 (-1)] 3)
      have v2 := (Y0.out.2.2.1.alloc (.cells #[.int .i64 0] 3)).alloc (.cells #[.int .i64 (-1)] 3)
      have bn0 := (Boxed.new w2 3 (.int .i64 0)).alloc (.cells #[.int .i64 (-1)] 3)
      have bn1 := Boxed.new (w2.alloc (.cells #[.int .i64 0] 3)) 3 (.int .i64 (-1))
      have bl0 : Below w2.heap.size w2 ((w2.alloc (.cells #[.int .i64 0] 3)).alloc (.cells #[.int .i64 (-1)] 3)) := balloc (balloc (Below.refl _ _) _) _
      simp only [World.size_alloc] at bn1
      have hsn1 : w2.heap.size + 2 ≤ ((w2.alloc (.cells #[.int .i64 0] 3)).alloc (.cells #[.int .i64 (-1)] 3)).heap.size := by simp
      generalize (w2.alloc (.cells #[.int .i64 0] 3)).alloc (.cells #[.int .i64 (-1)] 3) = Wn at *
      have Y := Lib.hid (And.intro v0 (And.intro v1 (And.intro v2 (And.intro bn0 (And.intro bn1 bl0)))))
      have HB := Lib.hid Y0.out.2.2.2
      have HLE := Lib.hid (show (alTo L 9).length = (alI L).length from rfl)
      have hal9 := alTo_len L 9
      rw [HLE.out]
      rw [HLE.out] at hal9
      clear v0 v1 v2 bn0 bn1 bl0
      obtain ⟨al, hal⟩ : ∃ al, al = (alI L).length := ⟨_, rfl⟩
      rw [← hal]
      rw [← hal] at hal9
      have HAL := Lib.hid hal
      clear hal
      refine range_ownE rfl (by omega) (gf := 69) (lb := lb) rfl trivial (enters_of Tryz.func69 (by kernel_rfl) rfl)
        (all_stops 5 (by omega) w2.heap.size L HLL.out lb w2 (Wn.heap.size + 2) HA.out (Nat.le_refl _)) (fun h1 h2 => h1.trans h2) (fun W o h => below_putObj W _ o (by omega)) Y.out.2.2.2.2.2 (fun _ => rfl)
        (RA Wn w2.heap.size (fun c => c = 0 ∨ (c : Int) < many)) (RAX Wn w2.heap.size 2 (fun c => 0 < c ∧ many ≤ c ∧ (c = 1 ∨ (c : Int) - 1 < many))) (RA.stable (by omega)) (fun c => RAX.stable (by omega) c) ⟨⟨Y.out.2.2.2.1, Y.out.2.2.2.2.1, Below.refl _ _⟩, by simp⟩ (fun W W' hs hb => hb.mono (by omega))
        (AxA L ?a10) (fun pre x a' W W' h _ _ => h) ?assign ?body ?done ?stop
      case assign =>
        rintro lp pre x W K hI e1 hsz hK
        simp only [alE]
        gi_wp2
        have hK' := hK (?a10 x) _ (Below.refl _ _) ⟨rfl, e1⟩
        exact hK'
      case body =>
        rintro lp pre x a' W ⟨⟨hn0, hn1, hbW⟩, hp⟩ ⟨rfl, hE⟩ hlt
        try dsimp only at hp
        try dsimp only
        obtain ⟨hl1, hl2, hl3⟩ := al_next hE
        have HAT := Lib.hid (at_back hl2)
        obtain ⟨va, hva⟩ : ∃ va, alA x = va := ⟨_, rfl⟩
        obtain ⟨vb, hvb⟩ : ∃ vb, alB L x = vb := ⟨_, rfl⟩
        have hgx : L[x]? = some vb := by
          have hx : x < L.length := by have := HLL.out; omega
          rw [← hvb]
          unfold alB
          rw [List.getD, List.getElem?_eq_getElem hx]
          rfl
        rw [hva, hvb]
        rw [hva] at HAT
        have hq0 := HC.out x vb hgx hl2
        have hvn : vb ≠ 0 := by rw [← hvb]; exact hl3
        have dvb : (vb == 0) = false := by simpa using hvn
        have HQ := Lib.hid (Y.out.2.2.2.2.2.cell (p := ⟨w.heap.size, x, none⟩) (by show w.heap.size < _; omega) |>.trans hq0)
        have hpl : pre.length ≤ 9 := by have := HAL.out; have h2 := hE.length_le; simp at h2; omega
        clear hva hvb hgx hq0 hvn
        gi_wp2_with fail
        refine ⟨trivial, ?_⟩
        refine (callsIn_wide.2 (num16_any va _)).mono ?_
        rintro e wq ⟨rfl, rfl⟩
        gi_wp2_with fail
        refine ⟨trivial, ?_⟩
        refine (callsIn_wide.2 (at_any va _)).mono ?_
        rintro e Wq ⟨rfl, b4⟩
        rw [HAT.out]
        have hwz : w2.heap.size ≤ W.heap.size := by have := hbW.size; omega
        have KQ : KeepsFrom Wn.heap.size W Wq := keeps_below b4
        have BQ : Below w2.heap.size W Wq := b4.mono hwz
        have hnq0 := boxed_below hn0 b4 hn0.lt
        have hnq1 := boxed_below hn1 b4 hn1.lt
        have hbWq : Below w2.heap.size Wn Wq := hbW.trans BQ
        have q5 := (boxed_below Y.out.2.1 hbWq (by omega)).cell
        have cx : Wq.cell? ⟨w.heap.size, x, none⟩ = some (.int .i64 vb) := (hbWq.cell (p := ⟨w.heap.size, x, none⟩) (by show w.heap.size < _; omega)).trans HQ.out
        have HL1 := Lib.hid hl1
        clear b4 hl1 hn0 hn1
        generalize hla : lastI pre = la at *
        have HLA := Lib.hid hla
        clear hla
        have hi1 : decide ((x : Int) ≤ la) = false := decide_eq_false (by have := HL1.out; omega)
        have hi2 : (vb != vb) = false := by simp
        have hi3 : (0 : Int) ≤ (x : Int) := by omega
        have hi4 : (x : Int) < 9 := by omega
        have kn1 := hnq1.frozen
        have kc1 := hnq1.cell
        have h1a : Boxed (Wq.setCell ⟨w2.heap.size + 1, 0, none⟩ (.int .i64 x)) w2.heap.size 3 (.int .i64 pre.length) := (Below.heap_setCell Wq ⟨w2.heap.size + 1, 0, none⟩ _ w2.heap.size (by show w2.heap.size ≠ w2.heap.size + 1; omega)).trans hnq0
        have h1b : Boxed (Wq.setCell ⟨w2.heap.size + 1, 0, none⟩ (.int .i64 x)) (w2.heap.size + 1) 3 (.int .i64 x) := hnq1.set _
        have h1c := h1a.cell
        have h1d := h1a.frozen
        have h2a : Boxed ((Wq.setCell ⟨w2.heap.size + 1, 0, none⟩ (.int .i64 x)).setCell ⟨w2.heap.size, 0, none⟩ (.int .i64 ((pre.length : Int) + 1))) w2.heap.size 3 (.int .i64 ((pre.length : Int) + 1)) := h1a.set _
        have h2b : Boxed ((Wq.setCell ⟨w2.heap.size + 1, 0, none⟩ (.int .i64 x)).setCell ⟨w2.heap.size, 0, none⟩ (.int .i64 ((pre.length : Int) + 1))) (w2.heap.size + 1) 3 (.int .i64 x) := (Below.heap_setCell _ ⟨w2.heap.size, 0, none⟩ _ (w2.heap.size + 1) (by show w2.heap.size + 1 ≠ w2.heap.size; omega)).trans h1b
        have h2c := h2a.cell
        have hB2 : Below w2.heap.size Wq ((Wq.setCell ⟨w2.heap.size + 1, 0, none⟩ (.int .i64 x)).setCell ⟨w2.heap.size, 0, none⟩ (.int .i64 ((pre.length : Int) + 1))) := ((Below.refl _ _).setCell (p := ⟨w2.heap.size + 1, 0, none⟩) (by show w2.heap.size ≤ w2.heap.size + 1; omega) _).setCell (p := ⟨w2.heap.size, 0, none⟩) (Nat.le_refl _) _
        have q52 : ((Wq.setCell ⟨w2.heap.size + 1, 0, none⟩ (.int .i64 x)).setCell ⟨w2.heap.size, 0, none⟩ (.int .i64 ((pre.length : Int) + 1))).cell? ⟨w.heap.size + 1, 0, none⟩ = some (.int .i64 many) := (hB2.cell (p := ⟨w.heap.size + 1, 0, none⟩) (by show w.heap.size + 1 < _; omega)).trans q5
        have KF : KeepsFrom Wn.heap.size W ((Wq.setCell ⟨w2.heap.size + 1, 0, none⟩ (.int .i64 x)).setCell ⟨w2.heap.size, 0, none⟩ (.int .i64 ((pre.length : Int) + 1))) := (KQ.trans ((KeepsOthers.setCell _ _ _).from _)).trans ((KeepsOthers.setCell _ _ _).from _)
        have FI := Lib.hid (And.intro h2a (And.intro h2b (And.intro (hbWq.trans hB2) (And.intro KF (BQ.trans hB2)))))
        have HLN := Lib.hid (len_snocA pre x)
        have HLS := Lib.hid (lastI_snoc pre x)
        clear h1a h1b h2a h2b hB2 KF KQ BQ hnq0 hnq1 hbWq
        by_cases hmany : many ≤ (pre.length : Int) + 1
        · gi_wp2
          refine ⟨FI.out.2.2.2.1, rfl, ⟨?_, ?_, FI.out.2.2.1⟩, ?_⟩
          · rw [HLN.out]; simpa using FI.out.1
          · rw [HLS.out]; exact FI.out.2.1
          · rw [HLN.out]; omega
        · gi_wp2
          refine ⟨FI.out.2.2.2.1, FI.out.2.2.2.2, ⟨?_, ?_, FI.out.2.2.1⟩, ?_⟩
          · rw [HLN.out]; simpa using FI.out.1
          · rw [HLS.out]; exact FI.out.2.1
          · rw [HLN.out]; omega
      case done =>
        rintro D0 ys Wm hD0 rfl ⟨⟨hn, hn1, hbW⟩, hp⟩ hK0
        rw [← HAL.out] at hp hn
        have hcnt : (al : Int) = min (al : Int) (max 1 many) := by omega
        obtain ⟨cnt, hcd⟩ : ∃ cnt, cnt = al := ⟨_, rfl⟩
        rw [← hcd] at hn
        replace hcnt : (cnt : Int) = min (al : Int) (max 1 many) := by rw [hcd]; exact hcnt
        clear hcd hp hn1
        have t1 := (boxed_below Y.out.2.1 hbW (by omega)).cell
        have t2 := boxed_below Y.out.2.2.1 hbW (by omega)
        have t2c := t2.cell
        have t2f := t2.frozen
        have tn := hn.cell
        have bm : Below w.heap.size w Wm := HB.out.trans ((Y.out.2.2.2.2.2.trans hbW).mono (by omega))
        have HCN := Lib.hid hcnt
        have HBM := Lib.hid bm
        have HK0 := Lib.hid hK0
        have HT2 := Lib.hid t2
        have hq1 : cnt ≤ al := by omega
        have hq2 : (cnt : Int) ≤ many ∨ (many ≤ 1 ∧ (cnt : Int) ≤ 1) := by omega
        have hq3 : al ≤ cnt ∨ (many ≤ cnt ∧ 1 ≤ (cnt : Int)) := by omega
        clear hcnt bm hK0 t2 hbW hn
        gi_wp2
        all_goals
          first
          | rw [show ((cnt : Int) == min (al : Int) (max 1 many)) = true by rw [beq_iff_eq]; exact HCN.out]
          | rw [show ((cnt : Int) == many) = true by rw [beq_iff_eq]; have := HCN.out; omega]
          | rw [show ((cnt : Int) == (al : Int)) = true by rw [beq_iff_eq]; have := HCN.out; omega]
          | rw [show ((cnt : Int) == 1) = true by rw [beq_iff_eq]; have := HCN.out; omega]
          have K0 := (KeepsOthers.setCell Wm ⟨w.heap.size + 1 + 1, 0, none⟩ (.bool true)).same D0 _ HK0.out rfl
          have r9 := (HT2.out.set (.bool true)).cell
          have b10 : Below w.heap.size w (Wm.setCell ⟨w.heap.size + 1 + 1, 0, none⟩ (.bool true)) := HBM.out.setCell (p := ⟨w.heap.size + 1 + 1, 0, none⟩) (by show w.heap.size ≤ w.heap.size + 1 + 1; omega) _
          generalize Wm.setCell ⟨w.heap.size + 1 + 1, 0, none⟩ (.bool true) = wz at *
          have r10 := cell_kept r9 (grownBy_putObj' _ D0 (.deferred none)) (fun r e => by cases e; exact ⟨_, K0, rfl⟩)
          refine ⟨by simp, .inl ⟨_, _, rfl, run_takeDeferred K0, ?_⟩⟩
          refine ⟨.bool true, by simp [results, Tryz.f29, go_sem, r10], rfl, ?_⟩
          exact b10.trans (belowK_b (w := w) (Nat.le_refl _) _ D0 _ _ (by omega) K0 rfl rfl)
      case stop =>
        rintro D0 cc pre Wm hD0 hpre ⟨rfl, ⟨hn, hn1, hbW⟩, hp⟩ hK0
        have hpn := hpre.length_le
        rw [← HAL.out] at hpn
        have hcnt : (pre.length : Int) = min (al : Int) (max 1 many) := by omega
        obtain ⟨cnt, hcd⟩ : ∃ cnt, cnt = pre.length := ⟨_, rfl⟩
        rw [← hcd] at hn hcnt
        clear hcd hp hpre hpn hn1
        have t1 := (boxed_below Y.out.2.1 hbW (by omega)).cell
        have t2 := boxed_below Y.out.2.2.1 hbW (by omega)
        have t2c := t2.cell
        have t2f := t2.frozen
        have tn := hn.cell
        have bm : Below w.heap.size w Wm := HB.out.trans ((Y.out.2.2.2.2.2.trans hbW).mono (by omega))
        have HCN := Lib.hid hcnt
        have HBM := Lib.hid bm
        have HK0 := Lib.hid hK0
        have HT2 := Lib.hid t2
        have hq1 : cnt ≤ al := by omega
        have hq2 : (cnt : Int) ≤ many ∨ (many ≤ 1 ∧ (cnt : Int) ≤ 1) := by omega
        have hq3 : al ≤ cnt ∨ (many ≤ cnt ∧ 1 ≤ (cnt : Int)) := by omega
        clear hcnt bm hK0 t2 hbW hn
        gi_wp2
        all_goals
          first
          | rw [show ((cnt : Int) == min (al : Int) (max 1 many)) = true by rw [beq_iff_eq]; exact HCN.out]
          | rw [show ((cnt : Int) == many) = true by rw [beq_iff_eq]; have := HCN.out; omega]
          | rw [show ((cnt : Int) == (al : Int)) = true by rw [beq_iff_eq]; have := HCN.out; omega]
          | rw [show ((cnt : Int) == 1) = true by rw [beq_iff_eq]; have := HCN.out; omega]
          have K0 := (KeepsOthers.setCell Wm ⟨w.heap.size + 1 + 1, 0, none⟩ (.bool true)).same D0 _ HK0.out rfl
          have r9 := (HT2.out.set (.bool true)).cell
          have b10 : Below w.heap.size w (Wm.setCell ⟨w.heap.size + 1 + 1, 0, none⟩ (.bool true)) := HBM.out.setCell (p := ⟨w.heap.size + 1 + 1, 0, none⟩) (by show w.heap.size ≤ w.heap.size + 1 + 1; omega) _
          generalize Wm.setCell ⟨w.heap.size + 1 + 1, 0, none⟩ (.bool true) = wz at *
          have r10 := cell_kept r9 (grownBy_putObj' _ D0 (.deferred none)) (fun r e => by cases e; exact ⟨_, K0, rfl⟩)
          refine ⟨by simp, .inl ⟨_, _, rfl, run_takeDeferred K0, ?_⟩⟩
          refine ⟨.bool true, by simp [results, Tryz.f29, go_sem, r10], rfl, ?_⟩
          exact b10.trans (belowK_b (w := w) (Nat.le_refl _) _ D0 _ _ (by omega) K0 rfl rfl)
end Go.Proofs.YtlanfceilajifaaGreatDoor
