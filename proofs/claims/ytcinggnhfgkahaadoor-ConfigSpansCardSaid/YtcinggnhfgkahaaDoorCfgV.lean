/- ConfigSpans: the walk. -/
import Derived.Test.YtcinggnhfgkahaaDoorCfgE
import Derived.Test.YtcinggnhfgkahaaDoorCfgC
import Derived.Test.YtcinggnhfgkahaaDoorCfgO
import Derived.Test.YtcinggnhfgkahaaDoorCfgL
import Derived.Sort.CutIn
import Derived.OwnWalkIn
import Derived.Maps.OwnIn
namespace Go.Proofs.YtcinggnhfgkahaaDoor
set_option linter.unusedVariables false
set_option linter.unusedSimpArgs false
open Go.RowKit Go.Shelf
attribute [local go_sem] Oper.semAt_some
set_option maxRecDepth 100000
theorem IsSp.below {w w' : World} {p j t h g q s : Int} {lb : Array Value} (h0 : IsSp w p j t h g q s lb) (hb : Below w.heap.size w w') : IsSp w' p j t h g q s lb := by
  obtain ⟨Bd, cp, A, n, k, rfl, h1⟩ := h0
  exact ⟨Bd, cp, A, n, k, rfl, h1.below hb h1.lt⟩
theorem wpListIn_append_rd {F : Fence} {fu : Nat} {P : Program} {B : Nat} {A : Option Addr} {w : World} {ops : Array Oper} {rest : List Oper} {o : Oper} {a : Act} {Q : Exit → Act → World → Prop} (hg : o.guard = none) (s x : Operand) (t : TypeId)
    (ho : o.op = .call { callee := .builtin .append, args := #[s, x], argTypes := #[t, t] })
    (base : Nat) (e : TypeId) (i : TypeInfo) (z : Value) (size bytes : Nat) (ht : P.underlying t = some (.slice e)) (hi : P.info? e = some i) (hz : i.zero = some z)
    (hsize : i.size = size) (hby : i.bytes = bytes) (hzs : z.cells.size = size) (hsz : 0 < size)
    (v : Value) (n : Nat) (xs : List Value) (hs : a.eval s = v) (hown : w.ownsRow base e size v n xs)
    (m c : Nat) (ys : List Value) (hx : a.eval x = .slice A m c) (hl : ys.length = m * size) (hr : Rd w B A ys) (h1 : ∀ u ∈ ys, u.oneCell' = true)
    (h63 : n + m ≤ maxLen) (hbytes : (n + m) * bytes ≤ 140737488355328) (hbase : base ≤ w.heap.size)
    (h : ∀ v' w', w'.ownsRow base e size v' (n + m) (xs ++ ys) → w.grownBy w' v.ownBlock → (v'.ownBlock = v.ownBlock ∨ v'.ownBlock = some w.heap.size) → wpListIn F fu P ops Q rest (a.put o.dst v') w') :
    wpListIn F fu P ops Q (o :: rest) a w := by
  refine wpListIn_plain hg fun K hK' => ?_
  obtain ⟨v', w', g1, g2, g3, g4⟩ := run_append_rd (P := P) base t o.type e i z size bytes ht hi hz hsize hby hzs hsz v n xs hown m c ys hl hr h1 h63 hbytes hbase
  unfold Oper.wpIn
  refine ⟨?_, ?_⟩
  · simp [Oper.about, ho, resolve, Target.leads, Sem.run_pure]
  · rw [Oper.semAt_plain F _ _ (by rw [ho]; intro c hc'; cases hc')]
    simp [execOp, ho, resolve, invoke, builtin, hs, hx, g1, Result.andThen]
    exact hK' _ _ (h v' w' g2 g3 g4)
theorem beq_comm' (a b : Int) : (a == b) = (b == a) := by rw [Bool.eq_iff_iff, beq_iff_eq, beq_iff_eq]; exact ⟨Eq.symm, Eq.symm⟩
theorem same_self (p j t h g q s cp : Int) (l : List (Nat × Int)) : ((p == p && j == j && t == t && h == h && g == g && q == q && s == s) && cp == cp && decide (l = l)) = true := by simp
theorem same_comm (p j t h g q s cp p' j' t' h' g' q' s' cp' : Int) (l m : List (Nat × Int)) : ((p' == p && j' == j && t' == t && h' == h && g' == g && q' == q && s' == s) && cp' == cp && decide (m = l)) = ((p == p' && j == j' && t == t' && h == h' && g == g' && q == q' && s == s') && cp == cp' && decide (l = m)) := by
  rw [beq_comm' p' p, beq_comm' j' j, beq_comm' t' t, beq_comm' h' h, beq_comm' g' g, beq_comm' q' q, beq_comm' s' s, beq_comm' cp' cp, decide_eq_decide.2 (eq_comm : m = l ↔ l = m)]
theorem rnames_any (w : World) :
    Calls Tryd.prog 25 #[] w fun e w' => e = .returned (.agg #[.string (nmS 0), .string (nmS 1), .string (nmS 2), .string (nmS 3), .string (nmS 4), .string (nmS 5), .string (nmS 6)]) ∧ Below w.heap.size w w' := by
  go_enter Tryd.func25, Tryd.ntmps25
  go_wp2
  go_returns
  exact ⟨rfl, by go_grown⟩
theorem nms_at (i : Nat) (h : i < 7) : (#[.string (nmS 0), .string (nmS 1), .string (nmS 2), .string (nmS 3), .string (nmS 4), .string (nmS 5), .string (nmS 6)] : Array Value)[i]? = some (.string (nmS i)) := by
  rcases (by omega : i = 0 ∨ i = 1 ∨ i = 2 ∨ i = 3 ∨ i = 4 ∨ i = 5 ∨ i = 6) with rfl | rfl | rfl | rfl | rfl | rfl | rfl <;> rfl
theorem sps_at (i : Nat) (p j t h g q s : Int) (hi : i < 7) : (#[.int .i64 p, .int .i64 j, .int .i64 t, .int .i64 h, .int .i64 g, .int .i64 q, .int .i64 s] : Array Value)[i]? = some (.int .i64 (spanS i p j t h g q s)) := by
  rcases (by omega : i = 0 ∨ i = 1 ∨ i = 2 ∨ i = 3 ∨ i = 4 ∨ i = 5 ∨ i = 6) with rfl | rfl | rfl | rfl | rfl | rfl | rfl <;> rfl
theorem RI_st {W1 : World} {Bn : Nat} {p : List Nat → Prop} (hB : Bn < W1.heap.size) : Stable W1.heap.size (RI W1 Bn p) := fun pre X Y h hb => ⟨⟨boxed_below h.1.1 hb hB, h.1.2.trans (hb.mono (by omega))⟩, h.2⟩
theorem RX_st {W1 : World} {Bn id : Nat} {p : List Nat → Prop} (hB : Bn < W1.heap.size) (c : Code) : Stable W1.heap.size (RX W1 Bn id p c) := fun pre X Y h hb => by
  rcases h with h | ⟨h1, h2⟩
  · exact .inl h
  · exact .inr ⟨h1, RI_st hB pre X Y h2 hb⟩
theorem KR.set {lo hi b : Nat} (W : World) (u : Value) (h1 : lo ≤ b) (h2 : b < hi) : KR lo hi W (W.setCell ⟨b, 0, none⟩ u) :=
  ⟨(Below.refl _ _).setCell (p := ⟨b, 0, none⟩) h1 _, fun k hk _ => Below.heap_setCell W ⟨b, 0, none⟩ u k (by show k ≠ b; omega)⟩
set_option maxHeartbeats 8000000 in
theorem configspans_walk (p j t h g q s cp p' j' t' h' g' q' s' cp' : Int) (many : Int) (A A' : Option Addr) (n n' k k' : Nat) (l m : List (Nat × Int)) (hn : l.length = n) (hn' : m.length = n') (w : World) (hr : Rd w w.heap.size A (plC l)) (hr' : Rd w w.heap.size A' (plC m)) (hnk : n ≤ k) (hk : k ≤ 9223372036854775807) (hl : ∀ x ∈ l, x.1 < 4294967296) (hw : CapsAt w) :
    Calls Tryd.prog 7 #[.agg #[.int .i64 p, .int .i64 j, .int .i64 t, .int .i64 h, .int .i64 g, .int .i64 q, .int .i64 s, .int .i64 cp, .slice A n k], .agg #[.int .i64 p', .int .i64 j', .int .i64 t', .int .i64 h', .int .i64 g', .int .i64 q', .int .i64 s', .int .i64 cp', .slice A' n' k'], .int .i64 many] w fun e w' => e = .returned (.bool true) ∧ Below w.heap.size w w' := by
  have HWK := Lib.hid (fun W (hb : Below w.heap.size w W) => works8_any W (hw.below hb))
  have hc := (((Blk.new w 24 #[.int .i64 p, .int .i64 j, .int .i64 t, .int .i64 h, .int .i64 g, .int .i64 q, .int .i64 s, .int .i64 cp, .slice A n k]).alloc (.cells #[.int .i64 p', .int .i64 j', .int .i64 t', .int .i64 h', .int .i64 g', .int .i64 q', .int .i64 s', .int .i64 cp', .slice A' n' k'] 24)).alloc (.cells #[.int .i64 many] 3)).alloc (.cells #[.bool false] 4)
  have ho := ((Blk.new (w.alloc (.cells #[.int .i64 p, .int .i64 j, .int .i64 t, .int .i64 h, .int .i64 g, .int .i64 q, .int .i64 s, .int .i64 cp, .slice A n k] 24)) 24 #[.int .i64 p', .int .i64 j', .int .i64 t', .int .i64 h', .int .i64 g', .int .i64 q', .int .i64 s', .int .i64 cp', .slice A' n' k']).alloc (.cells #[.int .i64 many] 3)).alloc (.cells #[.bool false] 4)
  have z1 := (Boxed.new ((w.alloc (.cells #[.int .i64 p, .int .i64 j, .int .i64 t, .int .i64 h, .int .i64 g, .int .i64 q, .int .i64 s, .int .i64 cp, .slice A n k] 24)).alloc (.cells #[.int .i64 p', .int .i64 j', .int .i64 t', .int .i64 h', .int .i64 g', .int .i64 q', .int .i64 s', .int .i64 cp', .slice A' n' k'] 24)) 3 (.int .i64 many)).alloc (.cells #[.bool false] 4)
  have z2 := Boxed.new (((w.alloc (.cells #[.int .i64 p, .int .i64 j, .int .i64 t, .int .i64 h, .int .i64 g, .int .i64 q, .int .i64 s, .int .i64 cp, .slice A n k] 24)).alloc (.cells #[.int .i64 p', .int .i64 j', .int .i64 t', .int .i64 h', .int .i64 g', .int .i64 q', .int .i64 s', .int .i64 cp', .slice A' n' k'] 24)).alloc (.cells #[.int .i64 many] 3)) 4 (.bool false)
  have b0 : Below w.heap.size w ((((w.alloc (.cells #[.int .i64 p, .int .i64 j, .int .i64 t, .int .i64 h, .int .i64 g, .int .i64 q, .int .i64 s, .int .i64 cp, .slice A n k] 24)).alloc (.cells #[.int .i64 p', .int .i64 j', .int .i64 t', .int .i64 h', .int .i64 g', .int .i64 q', .int .i64 s', .int .i64 cp', .slice A' n' k'] 24)).alloc (.cells #[.int .i64 many] 3)).alloc (.cells #[.bool false] 4)) := balloc (balloc (balloc (balloc (Below.refl _ _) _) _) _) _
  simp only [World.size_alloc] at ho z1 z2
  obtain ⟨w0, hw0⟩ : ∃ w0, w0 = (((w.alloc (.cells #[.int .i64 p, .int .i64 j, .int .i64 t, .int .i64 h, .int .i64 g, .int .i64 q, .int .i64 s, .int .i64 cp, .slice A n k] 24)).alloc (.cells #[.int .i64 p', .int .i64 j', .int .i64 t', .int .i64 h', .int .i64 g', .int .i64 q', .int .i64 s', .int .i64 cp', .slice A' n' k'] 24)).alloc (.cells #[.int .i64 many] 3)).alloc (.cells #[.bool false] 4) := ⟨_, rfl⟩
  rw [← hw0] at hc ho z1 z2 b0
  have HW0 := Lib.hid hw0
  have HN := Lib.hid hn
  have HN' := Lib.hid hn'
  have HR := Lib.hid hr
  have HR' := Lib.hid hr'
  clear hw0 hn hn' hr hr' hw
  have c0 := (hc).cell 0
  have c1 := (hc).cell 1
  have c2 := (hc).cell 2
  have c3 := (hc).cell 3
  have c4 := (hc).cell 4
  have c5 := (hc).cell 5
  have c6 := (hc).cell 6
  have c7 := (hc).cell 7
  have c8 := (hc).cell 8
  simp only [List.getElem?_toArray, List.getElem?_cons_zero, List.getElem?_cons_succ] at c0 c1 c2 c3 c4 c5 c6 c7 c8
  by_cases h30 : n ≤ 30
  case neg =>
    go_enter Tryd.func7, Tryd.ntmps7
    go_upto_region 1 with fail
    rw [← HW0.out]
    go_wp2_with fail
    refine (few_any p j t h g q s cp A n k _).mono ?_
    rintro e w1 ⟨rfl, b1⟩
    rw [decide_eq_false h30]
    replace hc := hc.below b1 hc.lt
    replace ho := ho.below b1 ho.lt
    replace z1 := boxed_below z1 b1 z1.lt
    replace z2 := boxed_below z2 b1 z2.lt
    replace b0 := bnext b0 b1
    clear c0 c1 c2 c3 c4 c5 c6 c7 c8
    go_wp2_with fail
    refine (HWK.out _ b0).mono ?_
    rintro e w9 ⟨rfl, b9⟩
    have y2 := boxed_below z2 b9 z2.lt
    have c2 := y2.cell
    have f2 := y2.frozen
    have r2 := (y2.set (.bool true)).cell
    have bz := (bnext b0 b9).setCell (p := ⟨w.heap.size + 1 + 1 + 1, 0, none⟩) (by show w.heap.size ≤ w.heap.size + 1 + 1 + 1; omega) (.bool true)
    clear y2
    go_wp2_with fail
    refine bodyPost_ret (v := .bool true) (by simp [results, Tryd.results7, go_sem, r2]) rfl ⟨rfl, bz⟩
  by_cases h31 : n' ≤ 30
  case neg =>
    go_enter Tryd.func7, Tryd.ntmps7
    go_upto_region 1 with fail
    rw [← HW0.out]
    go_wp2_with fail
    refine (few_any p j t h g q s cp A n k _).mono ?_
    rintro e w1 ⟨rfl, b1⟩
    rw [decide_eq_true h30]
    replace hc := hc.below b1 hc.lt
    replace ho := ho.below b1 ho.lt
    replace z1 := boxed_below z1 b1 z1.lt
    replace z2 := boxed_below z2 b1 z2.lt
    replace b0 := bnext b0 b1
    clear b1
    clear c0 c1 c2 c3 c4 c5 c6 c7 c8
    have o0 := (ho).cell 0
    have o1 := (ho).cell 1
    have o2 := (ho).cell 2
    have o3 := (ho).cell 3
    have o4 := (ho).cell 4
    have o5 := (ho).cell 5
    have o6 := (ho).cell 6
    have o7 := (ho).cell 7
    have o8 := (ho).cell 8
    simp only [List.getElem?_toArray, List.getElem?_cons_zero, List.getElem?_cons_succ] at o0 o1 o2 o3 o4 o5 o6 o7 o8
    go_wp2_with fail
    refine (few_any p' j' t' h' g' q' s' cp' A' n' k' _).mono ?_
    rintro e w1 ⟨rfl, b1⟩
    rw [decide_eq_false h31]
    replace hc := hc.below b1 hc.lt
    replace ho := ho.below b1 ho.lt
    replace z1 := boxed_below z1 b1 z1.lt
    replace z2 := boxed_below z2 b1 z2.lt
    replace b0 := bnext b0 b1
    clear o0 o1 o2 o3 o4 o5 o6 o7 o8
    go_wp2_with fail
    refine (HWK.out _ b0).mono ?_
    rintro e w9 ⟨rfl, b9⟩
    have y2 := boxed_below z2 b9 z2.lt
    have c2 := y2.cell
    have f2 := y2.frozen
    have r2 := (y2.set (.bool true)).cell
    have bz := (bnext b0 b9).setCell (p := ⟨w.heap.size + 1 + 1 + 1, 0, none⟩) (by show w.heap.size ≤ w.heap.size + 1 + 1 + 1; omega) (.bool true)
    clear y2
    go_wp2_with fail
    refine bodyPost_ret (v := .bool true) (by simp [results, Tryd.results7, go_sem, r2]) rfl ⟨rfl, bz⟩
  have HSP := Lib.hid (fun W => rspans_any p j t h g q s cp A n k W)
  have HIT := Lib.hid (fun W => spans_iter p j t h g q s cp A n k W)
  have HCP := Lib.hid (fun W (hb : Below w.heap.size w W) => ccopy_own p j t h g q s cp A n k w.heap.size l HN.out W (HR.out.below hb) hb.size (by omega))
  have HS1 := Lib.hid (fun W (hb : Below w.heap.size w W) => rsame8_any p j t h g q s cp p' j' t' h' g' q' s' cp' A A' n n' k k' l m HN.out HN'.out W ((HR.out.below hb).more hb.size) ((HR'.out.below hb).more hb.size) (by omega))
  refine (callsIn_wide (n := 6)).1 ?_
  refine callsIn_of_wp_marks Tryd.func7 rfl trivial ?_ rfl
  simp only [Tryd.ntmps7, List.size_toArray, List.length_cons, List.length_nil, Nat.reduceAdd, Nat.reduceSub, Array.replicate_succ, Array.replicate_zero, List.push_toArray, List.append_toArray, List.nil_append, List.cons_append]
  gi_upto_region 1 with fail
  rw [← HW0.out]
  gi_wp2_with fail
  refine ⟨trivial, ?_⟩
  refine (callsIn_wide.2 (few_any p j t h g q s cp A n k _)).mono ?_
  rintro e w1 ⟨rfl, b1⟩
  rw [decide_eq_true h30]
  replace hc := hc.below b1 hc.lt
  replace ho := ho.below b1 ho.lt
  replace z1 := boxed_below z1 b1 z1.lt
  replace z2 := boxed_below z2 b1 z2.lt
  replace b0 := bnext b0 b1
  clear b1
  clear c0 c1 c2 c3 c4 c5 c6 c7 c8
  have o0 := (ho).cell 0
  have o1 := (ho).cell 1
  have o2 := (ho).cell 2
  have o3 := (ho).cell 3
  have o4 := (ho).cell 4
  have o5 := (ho).cell 5
  have o6 := (ho).cell 6
  have o7 := (ho).cell 7
  have o8 := (ho).cell 8
  simp only [List.getElem?_toArray, List.getElem?_cons_zero, List.getElem?_cons_succ] at o0 o1 o2 o3 o4 o5 o6 o7 o8
  gi_wp2_with fail
  refine ⟨trivial, ?_⟩
  refine (callsIn_wide.2 (few_any p' j' t' h' g' q' s' cp' A' n' k' _)).mono ?_
  rintro e w1a ⟨rfl, b1⟩
  rw [decide_eq_true h31]
  replace hc := hc.below b1 hc.lt
  replace ho := ho.below b1 ho.lt
  replace z1 := boxed_below z1 b1 z1.lt
  replace z2 := boxed_below z2 b1 z2.lt
  replace b0 := bnext b0 b1
  clear b1
  clear o0 o1 o2 o3 o4 o5 o6 o7 o8
  have c0 := (hc).cell 0
  have c1 := (hc).cell 1
  have c2 := (hc).cell 2
  have c3 := (hc).cell 3
  have c4 := (hc).cell 4
  have c5 := (hc).cell 5
  have c6 := (hc).cell 6
  have c7 := (hc).cell 7
  have c8 := (hc).cell 8
  simp only [List.getElem?_toArray, List.getElem?_cons_zero, List.getElem?_cons_succ] at c0 c1 c2 c3 c4 c5 c6 c7 c8
  gi_wp2_with fail
  refine ⟨trivial, ?_⟩
  refine (callsIn_wide.2 (HSP.out _)).mono ?_
  rintro e w2 ⟨rfl, b1⟩
  replace hc := hc.below b1 hc.lt
  replace ho := ho.below b1 ho.lt
  replace z1 := boxed_below z1 b1 z1.lt
  replace z2 := boxed_below z2 b1 z2.lt
  replace b0 := bnext b0 b1
  clear b1
  clear c0 c1 c2 c3 c4 c5 c6 c7 c8
  gi_wp2_with fail
  refine ⟨trivial, ?_⟩
  refine (callsIn_wide.2 (rnames_any _)).mono ?_
  rintro e w3 ⟨rfl, b1⟩
  replace hc := hc.below b1 hc.lt
  replace ho := ho.below b1 ho.lt
  replace z1 := boxed_below z1 b1 z1.lt
  replace z2 := boxed_below z2 b1 z2.lt
  replace b0 := bnext b0 b1
  clear b1
  have h34 := z2.lt
  have yw := (Blk.new w3 47 #[.int .i64 p, .int .i64 j, .int .i64 t, .int .i64 h, .int .i64 g, .int .i64 q, .int .i64 s]).alloc (.cells #[.string (nmS 0), .string (nmS 1), .string (nmS 2), .string (nmS 3), .string (nmS 4), .string (nmS 5), .string (nmS 6)] 49)
  have yn := Blk.new (w3.alloc (.cells #[.int .i64 p, .int .i64 j, .int .i64 t, .int .i64 h, .int .i64 g, .int .i64 q, .int .i64 s] 47)) 49 #[.string (nmS 0), .string (nmS 1), .string (nmS 2), .string (nmS 3), .string (nmS 4), .string (nmS 5), .string (nmS 6)]
  have bx : Below w3.heap.size w3 ((w3.alloc (.cells #[.int .i64 p, .int .i64 j, .int .i64 t, .int .i64 h, .int .i64 g, .int .i64 q, .int .i64 s] 47)).alloc (.cells #[.string (nmS 0), .string (nmS 1), .string (nmS 2), .string (nmS 3), .string (nmS 4), .string (nmS 5), .string (nmS 6)] 49)) := balloc (balloc (Below.refl _ _) _) _
  simp only [World.size_alloc] at yn
  gi_upto_region 4 with fail
  generalize (w3.alloc (.cells #[.int .i64 p, .int .i64 j, .int .i64 t, .int .i64 h, .int .i64 g, .int .i64 q, .int .i64 s] 47)).alloc (.cells #[.string (nmS 0), .string (nmS 1), .string (nmS 2), .string (nmS 3), .string (nmS 4), .string (nmS 5), .string (nmS 6)] 49) = w4 at *
  replace hc := hc.below bx hc.lt
  replace ho := ho.below bx ho.lt
  replace z1 := boxed_below z1 bx z1.lt
  replace z2 := boxed_below z2 bx z2.lt
  replace b0 := bnext b0 bx
  generalize hw3 : w3.heap.size = Bw at *
  clear bx hw3
  have c0 := (hc).cell 0
  have c1 := (hc).cell 1
  have c2 := (hc).cell 2
  have c3 := (hc).cell 3
  have c4 := (hc).cell 4
  have c5 := (hc).cell 5
  have c6 := (hc).cell 6
  have c7 := (hc).cell 7
  have c8 := (hc).cell 8
  simp only [List.getElem?_toArray, List.getElem?_cons_zero, List.getElem?_cons_succ] at c0 c1 c2 c3 c4 c5 c6 c7 c8
  gi_wp2_with fail
  refine ⟨trivial, ?_⟩
  refine (callsIn_wide.2 (HIT.out _)).mono ?_
  rintro e w5 ⟨lb, rfl, hsp, b1⟩
  replace hc := hc.below b1 hc.lt
  replace ho := ho.below b1 ho.lt
  replace z1 := boxed_below z1 b1 z1.lt
  replace z2 := boxed_below z2 b1 z2.lt
  replace b0 := bnext b0 b1
  replace yw := yw.below b1 yw.lt
  replace yn := yn.below b1 yn.lt
  clear b1
  clear c0 c1 c2 c3 c4 c5 c6 c7 c8
  have c0 := (hc).cell 0
  have c1 := (hc).cell 1
  have c2 := (hc).cell 2
  have c3 := (hc).cell 3
  have c4 := (hc).cell 4
  have c5 := (hc).cell 5
  have c6 := (hc).cell 6
  have c7 := (hc).cell 7
  have c8 := (hc).cell 8
  simp only [List.getElem?_toArray, List.getElem?_cons_zero, List.getElem?_cons_succ] at c0 c1 c2 c3 c4 c5 c6 c7 c8
  have b5 : Below w5.heap.size w5 w5 := Below.refl _ _
  have X5 := Lib.hid (And.intro hc (And.intro z1 (And.intro z2 (And.intro yw (And.intro yn hsp)))))
  have B05 := Lib.hid b0
  gi_wp2_with fail
  refine ⟨trivial, ?_⟩
  refine (callsIn_wide.2 (HCP.out _ b0)).mono ?_
  rintro e w6 ⟨A1, kd, rfl, d1, d2, d3, b1, d4, d5⟩
  replace b5 := bnext b5 b1
  replace hc := hc.below b1 hc.lt
  replace ho := ho.below b1 ho.lt
  replace z1 := boxed_below z1 b1 z1.lt
  replace z2 := boxed_below z2 b1 z2.lt
  replace b0 := bnext b0 b1
  replace yw := yw.below b1 yw.lt
  replace yn := yn.below b1 yn.lt
  replace hsp := hsp.below b1
  clear c0 c1 c2 c3 c4 c5 c6 c7 c8
  have hd := Blk.new w6 24 #[.int .i64 p, .int .i64 j, .int .i64 t, .int .i64 h, .int .i64 g, .int .i64 q, .int .i64 s, .int .i64 cp, .slice A1 n kd]
  have bx : Below w6.heap.size w6 (w6.alloc (.cells #[.int .i64 p, .int .i64 j, .int .i64 t, .int .i64 h, .int .i64 g, .int .i64 q, .int .i64 s, .int .i64 cp, .slice A1 n kd] 24)) := balloc (Below.refl _ _) _
  gi_upto_region 6 with fail
  generalize w6.alloc (.cells #[.int .i64 p, .int .i64 j, .int .i64 t, .int .i64 h, .int .i64 g, .int .i64 q, .int .i64 s, .int .i64 cp, .slice A1 n kd] 24) = w6d at *
  replace b5 := bnext b5 bx
  replace hc := hc.below bx hc.lt
  replace ho := ho.below bx ho.lt
  replace z1 := boxed_below z1 bx z1.lt
  replace z2 := boxed_below z2 bx z2.lt
  replace b0 := bnext b0 bx
  replace yw := yw.below bx yw.lt
  replace yn := yn.below bx yn.lt
  have HA1 := Lib.hid (show ∀ a, A1 = some a → w5.heap.size ≤ a.block ∧ a.block < w6.heap.size from fun a ha => ⟨d4 a ha, (by obtain ⟨e, cur, _, h2, _⟩ := d5 a ha; exact h2.lt)⟩)
  replace d5 := d5.below bx
  clear d4
  replace hsp := hsp.below bx
  replace d3 := (d3.below bx).more bx.size
  generalize hw6 : w6.heap.size = Bd at *
  clear bx
  have c0 := (hc).cell 0
  have c1 := (hc).cell 1
  have c2 := (hc).cell 2
  have c3 := (hc).cell 3
  have c4 := (hc).cell 4
  have c5 := (hc).cell 5
  have c6 := (hc).cell 6
  have c7 := (hc).cell 7
  have c8 := (hc).cell 8
  simp only [List.getElem?_toArray, List.getElem?_cons_zero, List.getElem?_cons_succ] at c0 c1 c2 c3 c4 c5 c6 c7 c8
  have o0 := (ho).cell 0
  have o1 := (ho).cell 1
  have o2 := (ho).cell 2
  have o3 := (ho).cell 3
  have o4 := (ho).cell 4
  have o5 := (ho).cell 5
  have o6 := (ho).cell 6
  have o7 := (ho).cell 7
  have o8 := (ho).cell 8
  simp only [List.getElem?_toArray, List.getElem?_cons_zero, List.getElem?_cons_succ] at o0 o1 o2 o3 o4 o5 o6 o7 o8
  gi_wp2_with fail
  refine ⟨trivial, ?_⟩
  refine (callsIn_wide.2 (HS1.out _ b0)).mono ?_
  rintro e w7 ⟨rfl, b1⟩
  replace b5 := bnext b5 b1
  replace d5 := d5.below b1
  replace hc := hc.below b1 hc.lt
  replace ho := ho.below b1 ho.lt
  replace z1 := boxed_below z1 b1 z1.lt
  replace z2 := boxed_below z2 b1 z2.lt
  replace b0 := bnext b0 b1
  replace yw := yw.below b1 yw.lt
  replace yn := yn.below b1 yn.lt
  replace hsp := hsp.below b1
  replace hd := hd.below b1 hd.lt
  replace d3 := (d3.below b1).more b1.size
  clear b1
  clear c0 c1 c2 c3 c4 c5 c6 c7 c8
  clear o0 o1 o2 o3 o4 o5 o6 o7 o8
  have HRD1 := Lib.hid (rsame8_any p j t h g q s cp p j t h g q s cp A1 A n n kd k l l HN.out HN.out w7 d3 ((HR.out.below b0).more b0.size) (by omega))
  rw [same_self] at HRD1
  have HCS1 := Lib.hid (fun W (hb : Below w.heap.size w W) => csame_any p j t h g q s cp p' j' t' h' g' q' s' cp' A A' n n' k k' l m HN.out HN'.out W ((HR.out.below hb).more hb.size) ((HR'.out.below hb).more hb.size) (by omega))
  have HCS2 := Lib.hid (fun W (hb : Below w.heap.size w W) => csame_any p' j' t' h' g' q' s' cp' p j t h g q s cp A' A n' n k' k m l HN'.out HN.out W ((HR'.out.below hb).more hb.size) ((HR.out.below hb).more hb.size) (by omega))
  rw [same_comm] at HCS2
  generalize ((p == p' && j == j' && t == t' && h == h' && g == g' && q == q' && s == s') && cp == cp' && decide (l = m)) = sm at *
  have hfn : ∀ (lb : Array Value) (w : World), (binOp .eql 52 (.func (.func 42) #[] lb) .nilFunc).run Tryd.prog w = .ok (.bool false) w := fun _ _ => rfl
  have hsm : (sm != sm) = false := by simp
  have c0 := (hc).cell 0
  have c1 := (hc).cell 1
  have c2 := (hc).cell 2
  have c3 := (hc).cell 3
  have c4 := (hc).cell 4
  have c5 := (hc).cell 5
  have c6 := (hc).cell 6
  have c7 := (hc).cell 7
  have c8 := (hc).cell 8
  simp only [List.getElem?_toArray, List.getElem?_cons_zero, List.getElem?_cons_succ] at c0 c1 c2 c3 c4 c5 c6 c7 c8
  have o0 := (ho).cell 0
  have o1 := (ho).cell 1
  have o2 := (ho).cell 2
  have o3 := (ho).cell 3
  have o4 := (ho).cell 4
  have o5 := (ho).cell 5
  have o6 := (ho).cell 6
  have o7 := (ho).cell 7
  have o8 := (ho).cell 8
  simp only [List.getElem?_toArray, List.getElem?_cons_zero, List.getElem?_cons_succ] at o0 o1 o2 o3 o4 o5 o6 o7 o8
  have e0 := (hd).cell 0
  have e1 := (hd).cell 1
  have e2 := (hd).cell 2
  have e3 := (hd).cell 3
  have e4 := (hd).cell 4
  have e5 := (hd).cell 5
  have e6 := (hd).cell 6
  have e7 := (hd).cell 7
  have e8 := (hd).cell 8
  simp only [List.getElem?_toArray, List.getElem?_cons_zero, List.getElem?_cons_succ] at e0 e1 e2 e3 e4 e5 e6 e7 e8
  gi_wp2_with fail
  refine ⟨trivial, ?_⟩
  refine (callsIn_wide.2 (HRD1.out)).mono ?_
  rintro e w8 ⟨rfl, b1⟩
  replace b5 := bnext b5 b1
  replace d5 := d5.below b1
  replace hc := hc.below b1 hc.lt
  replace ho := ho.below b1 ho.lt
  replace z1 := boxed_below z1 b1 z1.lt
  replace z2 := boxed_below z2 b1 z2.lt
  replace b0 := bnext b0 b1
  replace yw := yw.below b1 yw.lt
  replace yn := yn.below b1 yn.lt
  replace hsp := hsp.below b1
  replace hd := hd.below b1 hd.lt
  replace d3 := (d3.below b1).more b1.size
  clear b1
  clear c0 c1 c2 c3 c4 c5 c6 c7 c8 o0 o1 o2 o3 o4 o5 o6 o7 o8
  clear e0 e1 e2 e3 e4 e5 e6 e7 e8
  have c0 := (hc).cell 0
  have c1 := (hc).cell 1
  have c2 := (hc).cell 2
  have c3 := (hc).cell 3
  have c4 := (hc).cell 4
  have c5 := (hc).cell 5
  have c6 := (hc).cell 6
  have c7 := (hc).cell 7
  have c8 := (hc).cell 8
  simp only [List.getElem?_toArray, List.getElem?_cons_zero, List.getElem?_cons_succ] at c0 c1 c2 c3 c4 c5 c6 c7 c8
  have o0 := (ho).cell 0
  have o1 := (ho).cell 1
  have o2 := (ho).cell 2
  have o3 := (ho).cell 3
  have o4 := (ho).cell 4
  have o5 := (ho).cell 5
  have o6 := (ho).cell 6
  have o7 := (ho).cell 7
  have o8 := (ho).cell 8
  simp only [List.getElem?_toArray, List.getElem?_cons_zero, List.getElem?_cons_succ] at o0 o1 o2 o3 o4 o5 o6 o7 o8
  have e0 := (hd).cell 0
  have e1 := (hd).cell 1
  have e2 := (hd).cell 2
  have e3 := (hd).cell 3
  have e4 := (hd).cell 4
  have e5 := (hd).cell 5
  have e6 := (hd).cell 6
  have e7 := (hd).cell 7
  have e8 := (hd).cell 8
  simp only [List.getElem?_toArray, List.getElem?_cons_zero, List.getElem?_cons_succ] at e0 e1 e2 e3 e4 e5 e6 e7 e8
  gi_wp2_with fail
  refine ⟨trivial, ?_⟩
  refine (callsIn_wide.2 (HCS1.out _ b0)).mono ?_
  rintro e w9 ⟨rfl, b1⟩
  replace b5 := bnext b5 b1
  replace d5 := d5.below b1
  replace hc := hc.below b1 hc.lt
  replace ho := ho.below b1 ho.lt
  replace z1 := boxed_below z1 b1 z1.lt
  replace z2 := boxed_below z2 b1 z2.lt
  replace b0 := bnext b0 b1
  replace yw := yw.below b1 yw.lt
  replace yn := yn.below b1 yn.lt
  replace hsp := hsp.below b1
  replace hd := hd.below b1 hd.lt
  replace d3 := (d3.below b1).more b1.size
  clear b1
  clear c0 c1 c2 c3 c4 c5 c6 c7 c8 o0 o1 o2 o3 o4 o5 o6 o7 o8
  clear e0 e1 e2 e3 e4 e5 e6 e7 e8
  have c0 := (hc).cell 0
  have c1 := (hc).cell 1
  have c2 := (hc).cell 2
  have c3 := (hc).cell 3
  have c4 := (hc).cell 4
  have c5 := (hc).cell 5
  have c6 := (hc).cell 6
  have c7 := (hc).cell 7
  have c8 := (hc).cell 8
  simp only [List.getElem?_toArray, List.getElem?_cons_zero, List.getElem?_cons_succ] at c0 c1 c2 c3 c4 c5 c6 c7 c8
  have o0 := (ho).cell 0
  have o1 := (ho).cell 1
  have o2 := (ho).cell 2
  have o3 := (ho).cell 3
  have o4 := (ho).cell 4
  have o5 := (ho).cell 5
  have o6 := (ho).cell 6
  have o7 := (ho).cell 7
  have o8 := (ho).cell 8
  simp only [List.getElem?_toArray, List.getElem?_cons_zero, List.getElem?_cons_succ] at o0 o1 o2 o3 o4 o5 o6 o7 o8
  have e0 := (hd).cell 0
  have e1 := (hd).cell 1
  have e2 := (hd).cell 2
  have e3 := (hd).cell 3
  have e4 := (hd).cell 4
  have e5 := (hd).cell 5
  have e6 := (hd).cell 6
  have e7 := (hd).cell 7
  have e8 := (hd).cell 8
  simp only [List.getElem?_toArray, List.getElem?_cons_zero, List.getElem?_cons_succ] at e0 e1 e2 e3 e4 e5 e6 e7 e8
  gi_wp2_with fail
  refine ⟨trivial, ?_⟩
  refine (callsIn_wide.2 (HCS2.out _ b0)).mono ?_
  rintro e w10 ⟨rfl, b1⟩
  replace b5 := bnext b5 b1
  replace d5 := d5.below b1
  replace hc := hc.below b1 hc.lt
  replace ho := ho.below b1 ho.lt
  replace z1 := boxed_below z1 b1 z1.lt
  replace z2 := boxed_below z2 b1 z2.lt
  replace b0 := bnext b0 b1
  replace yw := yw.below b1 yw.lt
  replace yn := yn.below b1 yn.lt
  replace hsp := hsp.below b1
  replace hd := hd.below b1 hd.lt
  replace d3 := (d3.below b1).more b1.size
  clear b1
  clear c0 c1 c2 c3 c4 c5 c6 c7 c8 o0 o1 o2 o3 o4 o5 o6 o7 o8
  clear e0 e1 e2 e3 e4 e5 e6 e7 e8
  have c0 := (hc).cell 0
  have c1 := (hc).cell 1
  have c2 := (hc).cell 2
  have c3 := (hc).cell 3
  have c4 := (hc).cell 4
  have c5 := (hc).cell 5
  have c6 := (hc).cell 6
  have c7 := (hc).cell 7
  have c8 := (hc).cell 8
  simp only [List.getElem?_toArray, List.getElem?_cons_zero, List.getElem?_cons_succ] at c0 c1 c2 c3 c4 c5 c6 c7 c8
  have o0 := (ho).cell 0
  have o1 := (ho).cell 1
  have o2 := (ho).cell 2
  have o3 := (ho).cell 3
  have o4 := (ho).cell 4
  have o5 := (ho).cell 5
  have o6 := (ho).cell 6
  have o7 := (ho).cell 7
  have o8 := (ho).cell 8
  simp only [List.getElem?_toArray, List.getElem?_cons_zero, List.getElem?_cons_succ] at o0 o1 o2 o3 o4 o5 o6 o7 o8
  have e0 := (hd).cell 0
  have e1 := (hd).cell 1
  have e2 := (hd).cell 2
  have e3 := (hd).cell 3
  have e4 := (hd).cell 4
  have e5 := (hd).cell 5
  have e6 := (hd).cell 6
  have e7 := (hd).cell 7
  have e8 := (hd).cell 8
  simp only [List.getElem?_toArray, List.getElem?_cons_zero, List.getElem?_cons_succ] at e0 e1 e2 e3 e4 e5 e6 e7 e8
  have HCD := Lib.hid (csame_any p j t h g q s cp p j t h g q s cp A A1 n n k kd l l HN.out HN.out w10 ((HR.out.below b0).more b0.size) d3 (by omega))
  rw [same_self] at HCD
  gi_wp2_with fail
  refine ⟨trivial, ?_⟩
  refine (callsIn_wide.2 (HCD.out)).mono ?_
  rintro e w11 ⟨rfl, b1⟩
  replace b5 := bnext b5 b1
  replace d5 := d5.below b1
  replace hc := hc.below b1 hc.lt
  replace ho := ho.below b1 ho.lt
  replace z1 := boxed_below z1 b1 z1.lt
  replace z2 := boxed_below z2 b1 z2.lt
  replace b0 := bnext b0 b1
  replace yw := yw.below b1 yw.lt
  replace yn := yn.below b1 yn.lt
  replace hsp := hsp.below b1
  replace hd := hd.below b1 hd.lt
  replace d3 := (d3.below b1).more b1.size
  clear b1
  clear c0 c1 c2 c3 c4 c5 c6 c7 c8 o0 o1 o2 o3 o4 o5 o6 o7 o8
  clear e0 e1 e2 e3 e4 e5 e6 e7 e8
  have HLD := Lib.hid hd.lt
  obtain ⟨i0, hi0, hz0, hz1, hz2⟩ := info_parts pfx_info
  have hrr := (HR.out.below b0).alloc (o := .cells #[] 28) b0.size
  have hcz := hc.alloc (.cells #[] 28)
  have c0 := (hcz).cell 0
  have c1 := (hcz).cell 1
  have c2 := (hcz).cell 2
  have c3 := (hcz).cell 3
  have c4 := (hcz).cell 4
  have c5 := (hcz).cell 5
  have c6 := (hcz).cell 6
  have c7 := (hcz).cell 7
  have c8 := (hcz).cell 8
  simp only [List.getElem?_toArray, List.getElem?_cons_zero, List.getElem?_cons_succ] at c0 c1 c2 c3 c4 c5 c6 c7 c8
  gi_wp2_with (gi_at_builtin
               go_must (refine wpListIn_append_rd rfl (.tmp 65) (.tmp 67) _ rfl w11.heap.size 28 i0 _ 2 16 Tryd.underlying22 hi0 hz0 hz1 hz2 rfl (by omega) (.slice (some ⟨w11.heap.size, 0, none⟩) 0 0) 0 [] rfl (World.ownsRow_lit w11 #[] 0 (Nat.le_refl _) (by simp [maxLen]) (by simp)) n k (plC l) rfl (by rw [plC_len, HN.out]) hrr (plC_one l) (by simp only [maxLen]; omega) (by omega) (by simp) ?_)
               intro v1 w12 ho1 hg1 ha1)
  simp only [Nat.zero_add, List.nil_append] at ho1
  obtain ⟨A4, k4, rfl, r1, r2, r3, r4⟩ := own_row ho1
  have bx : Below w11.heap.size w11 w12 := ((Below.refl w11.heap.size w11).alloc (Nat.le_refl _) (.cells #[] 28)).grown hg1 (by simp) (by simp [Value.ownBlock])
  have HSZ := Lib.hid bx.size
  clear hcz hrr ho1 ha1
  clear c0 c1 c2 c3 c4 c5 c6 c7 c8
  replace b5 := bnext b5 bx
  replace d5 := d5.below bx
  replace hc := hc.below bx hc.lt
  replace ho := ho.below bx ho.lt
  replace z1 := boxed_below z1 bx z1.lt
  replace z2 := boxed_below z2 bx z2.lt
  replace b0 := bnext b0 bx
  replace yw := yw.below bx yw.lt
  replace yn := yn.below bx yn.lt
  replace hsp := hsp.below bx
  replace hd := hd.below bx hd.lt
  replace d3 := (d3.below bx).more bx.size
  clear bx hg1
  have hBd : Bd < w11.heap.size := HLD.out
  have HR4 := Lib.hid (show ∀ a, A4 = some a → w11.heap.size ≤ a.block from r4)
  have HD3 := Lib.hid d3
  have hsz12 : w11.heap.size ≤ w12.heap.size := HSZ.out
  clear hc ho z1 z2 b0 yw yn hsp r4 d3
  gi_loopw [13] (fun i wr => ∃ c : Nat, c ≤ n ∧ i = .int .i64 c ∧ Mine wr A1 n ∧ Below w5.heap.size w5 wr ∧ Blk wr Bd 24 #[.int .i64 p, .int .i64 j, .int .i64 t, .int .i64 h, .int .i64 g, .int .i64 q, .int .i64 s, .int .i64 cp, .slice A1 n kd] ∧ w12.heap.size ≤ wr.heap.size ∧ Rd wr w12.heap.size A4 (plC l)) (fun i _ => n - (intOf i).toNat)
  case atStart => exact ⟨0, Nat.zero_le _, rfl, d5, b5, hd, Nat.le_refl _, r3⟩
  case round =>
    obtain ⟨c, hc, rfl, v1, v2, v3, v4, v5⟩ := hrel
    clear d5 b5 hd r3
    have e0 := (v3).cell 0
    have e1 := (v3).cell 1
    have e2 := (v3).cell 2
    have e3 := (v3).cell 3
    have e4 := (v3).cell 4
    have e5 := (v3).cell 5
    have e6 := (v3).cell 6
    have e7 := (v3).cell 7
    have e8 := (v3).cell 8
    simp only [List.getElem?_toArray, List.getElem?_cons_zero, List.getElem?_cons_succ] at e0 e1 e2 e3 e4 e5 e6 e7 e8
    by_cases hlt : c < n
    · obtain ⟨b, off, hA, hbl, -⟩ := HD3.out (by rw [plC_len, HN.out]; omega)
      obtain ⟨ec, cur, he, hB, hcs⟩ := v1 _ hA
      simp only at he hB
      have ho : off = 0 := by injection he
      subst ho
      subst hA
      have hq := HA1.out _ rfl
      simp only at hq
      obtain ⟨u, hu⟩ : ∃ u, cur[c * 2 + 1]? = some u := ⟨_, Array.getElem?_eq_getElem (by omega)⟩
      have qc := hB.cell (c * 2 + 1)
      rw [hu] at qc
      have qf := hB.frozen (c * 2 + 1)
      have hi1 : (c : Int) < (n : Int) := by omega
      have Z1 := Lib.hid (v1.put (c * 2 + 1) (.int .i64 77))
      have Z2 := Lib.hid (v2.setCell (p := ⟨b, c * 2 + 1, none⟩) hq.1 (.int .i64 77))
      have Z3 := Lib.hid (v3.far (p := ⟨b, c * 2 + 1, none⟩) (by show Bd ≠ b; omega) (.int .i64 77))
      have Z4 := Lib.hid (v5.off (g := b) (i := c * 2 + 1) (fun a ha => by have := HR4.out a ha; omega) (.int .i64 77))
      have Z5 := Lib.hid v4
      clear v1 v2 v3 v4 v5 he hB hcs hu hq
      gi_wp2_with fail
      go_roundw
      case rel => exact ⟨c + 1, by omega, by go_num, Z1.out, Z2.out, Z3.out, by simpa using Z5.out, Z4.out⟩
      case measure => simp [intOf]; omega
    · obtain rfl : c = n := by omega
      have hi1 : ¬ ((c : Int) < (c : Int)) := by omega
      have Z2 := Lib.hid v2
      have Z4 := Lib.hid (v5.more v4)
      have yc := X5.out.1.below v2 X5.out.1.lt
      have c8 := yc.cell 8
      simp only [List.getElem?_toArray, List.getElem?_cons_zero, List.getElem?_cons_succ] at c8
      have HP := Lib.hid (psame_any l l c c HN.out HN.out A A4 k k4 wr ((HR.out.below (B05.out.trans (v2.mono B05.out.size))).more (Nat.le_trans B05.out.size v2.size)) Z4.out (by omega))
      rw [decide_eq_true rfl] at HP
      clear v1 v2 v3 v4 v5 yc
      gi_wp2_with fail
      refine ⟨trivial, ?_⟩
      refine (callsIn_wide.2 HP.out).mono ?_
      rintro e w2 ⟨rfl, b1⟩
      have b5 := bnext Z2.out b1
      have X := Lib.hid (And.intro (boxed_below X5.out.2.1 b5 X5.out.2.1.lt) (And.intro (boxed_below X5.out.2.2.1 b5 X5.out.2.2.1.lt) (And.intro (X5.out.2.2.2.1.below b5 X5.out.2.2.2.1.lt) (And.intro (X5.out.2.2.2.2.1.below b5 X5.out.2.2.2.2.1.lt) (And.intro (B05.out.trans (b5.mono B05.out.size)) (X5.out.2.2.2.2.2.below b5))))))
      have hw25 : w5.heap.size ≤ w2.heap.size := b5.size
      have hwn : Bw + 1 < w5.heap.size := X5.out.2.2.2.2.1.lt
      clear b1 b5 HP c8 Z2 Z4 HR4 HD3 HA1 B05 X5 e0 e1 e2 e3 e4 e5 e6 e7 e8
      gi_wp2_with fail
      refine wpIn_loop_rounds 3 ?_
      have bt0 := Boxed.new w2 3 (.int .i64 0)
      have bb0 : Below w2.heap.size w2 (w2.alloc (.cells #[.int .i64 0] 3)) := balloc (Below.refl _ _) _
      generalize hg0 : w2.alloc (.cells #[.int .i64 0] 3) = Wr0 at *
      clear hg0
      rw [roundsIn_succ]
      have ct0 := bt0.cell
      gi_wp2_with fail
      have bn0 := Boxed.new Wr0 3 (.int .i64 0)
      have bl0 : Below w2.heap.size w2 (Wr0.alloc (.cells #[.int .i64 0] 3)) := balloc bb0 _
      have bu0 := bt0.alloc (.cells #[.int .i64 0] 3)
      have hlt0 := bt0.lt
      have hnl0 := bn0.lt
      have hwr0 := bb0.size
      generalize hgn0 : Wr0.alloc (.cells #[.int .i64 0] 3) = Wn0 at *
      generalize hbn0 : Wr0.heap.size = Bn0 at *
      clear hgn0 ct0
      refine range_own rfl (by omega) (gf := 42) (lb := lb) rfl trivial (enters_of Tryd.func42 (by kernel_rfl) rfl)
        (sp_stops 5 (by omega) Bn0 (Wn0.heap.size + 2) p j t h g q s lb Wn0 w2 X.out.2.2.2.2.2 bl0 (by omega) (by omega)) KR.trans (fun W o _ => KR.put W o (by omega) (by omega)) (Below.refl _ _) (fun _ => rfl)
        (RI Wn0 Bn0 (fun pre => pre.length = 0 ∨ (pre.length : Int) < many)) (RX Wn0 Bn0 4 (fun pre => 0 < pre.length ∧ many ≤ pre.length ∧ (pre.length = 1 ∨ (pre.length : Int) - 1 < many))) (RI_st hnl0) (RX_st hnl0) ⟨⟨bn0, Below.refl _ _⟩, by simp⟩ ?a10 ?assign0 ?body0 ?done0 ?stop0
      case assign0 =>
        intro lp y W K hK
        simp only [spEs]
        gi_wp2
        exact hK
      case body0 =>
        rintro lp pre y W ⟨⟨hn, hbW⟩, hp⟩ hlt
        try dsimp only at hp
        have hb2 : Below w2.heap.size w2 W := bl0.trans (hbW.mono (by omega))
        have q1 := (boxed_below X.out.1 hb2 X.out.1.lt).cell
        have z2 := boxed_below X.out.2.1 hb2 X.out.2.1.lt
        have q2 := z2.cell
        have k2 := z2.frozen
        have qt := (boxed_below bu0 hbW (by omega)).cell
        have qn := hn.cell
        have kn := hn.frozen
        have e0 := ((X.out.2.2.2.1.below hb2 X.out.2.2.2.1.lt).cell pre.length).trans (nms_at pre.length hlt)
        have e1 := ((X.out.2.2.1.below hb2 X.out.2.2.1.lt).cell pre.length).trans (sps_at pre.length p j t h g q s hlt)
        try dsimp only
        have hi1 : (0 : Int) ≤ pre.length ∧ (pre.length : Int) < (7 : Int) := by omega
        have hi2 : decide ((7 : Int) ≤ (pre.length : Int)) = false := by simp; omega
        have hsame : y = pre.length → ((nmS y).toList = (nmS pre.length).toList ∧ spanS y p j t h g q s = spanS pre.length p j t h g q s) := fun h => by rw [h]; exact ⟨rfl, rfl⟩
        clear z2
        generalize nmS y = ya at *
        generalize spanS y p j t h g q s = yb at *
        generalize nmS pre.length = va at *
        generalize spanS pre.length p j t h g q s = vb at *
        have HSM := Lib.hid hsame
        clear hsame
        by_cases hv : ya.toList = va.toList ∧ yb = vb
        · obtain ⟨hv1, rfl⟩ := hv
          have hNE : (ya.toList == va.toList) = true := by rw [hv1]; simp
          clear hv1
          have hIn : Boxed (W.setCell ⟨Bn0, 0, none⟩ (.int .i64 (pre ++ [y]).length)) Bn0 3 (.int .i64 (pre ++ [y]).length) := hn.set _
          have hBn : Below Bn0 Wn0 (W.setCell ⟨Bn0, 0, none⟩ (.int .i64 (pre ++ [y]).length)) := hbW.setCell (p := ⟨Bn0, 0, none⟩) (Nat.le_refl _) _
          simp only [List.length_append, List.length_singleton, Int.natCast_add, Int.natCast_one] at hIn hBn
          have qn2 := hIn.cell
          have HIN := Lib.hid hIn
          have HBN := Lib.hid hBn
          clear hIn hBn
          have KF : KeepsFrom Wn0.heap.size W (W.setCell ⟨Bn0, 0, none⟩ (.int .i64 ((pre.length : Int) + 1))) := (KeepsOthers.setCell _ _ _).from _
          have KB : KR Bn0 (Wn0.heap.size + 2) W (W.setCell ⟨Bn0, 0, none⟩ (.int .i64 ((pre.length : Int) + 1))) := KR.set W _ (Nat.le_refl _) (by omega)
          have qt2 : (W.setCell ⟨Bn0, 0, none⟩ (.int .i64 ((pre.length : Int) + 1))).cell? ⟨(w2.heap.size), 0, none⟩ = some (.int .i64 0) := (KB.1.cell (p := ⟨(w2.heap.size), 0, none⟩) (by show (w2.heap.size) < _; omega)).trans qt
          have qm2 : (W.setCell ⟨Bn0, 0, none⟩ (.int .i64 ((pre.length : Int) + 1))).cell? ⟨w.heap.size + 1 + 1, 0, none⟩ = some (.int .i64 many) := (KB.1.cell (p := ⟨w.heap.size + 1 + 1, 0, none⟩) (by show w.heap.size + 1 + 1 < _; omega)).trans q1
          by_cases hmany : many ≤ (pre.length : Int) + 1
          · gi_wp2
            exact ⟨KF, .inr ⟨rfl, ⟨by simpa using HIN.out, by simpa using HBN.out⟩, by have := len_snoc pre y; dsimp only; omega⟩⟩
          · gi_wp2
            exact ⟨KF, KB, ⟨by simpa using HIN.out, by simpa using HBN.out⟩, by have := len_snoc pre y; dsimp only; omega⟩
        · have HV := Lib.hid hv
          by_cases hv1 : ya.toList = va.toList
          · have hNE : (ya.toList == va.toList) = true := by rw [hv1]; simp
            have hNS : (yb != vb) = true := by simp; exact fun h => hv ⟨hv1, h⟩
            clear hv hv1
            gi_wp2
            exact ⟨(KeepsOthers.setCell _ _ _).from _, .inl ⟨rfl, fun h => HV.out (HSM.out (range_last h).1)⟩⟩
          · have hNE : (ya.toList == va.toList) = false := by rw [Bool.eq_false_iff]; intro h; exact hv1 (beq_iff_eq.1 h)
            clear hv hv1
            gi_wp2
            exact ⟨(KeepsOthers.setCell _ _ _).from _, .inl ⟨rfl, fun h => HV.out (HSM.out (range_last h).1)⟩⟩
      case done0 =>
        rintro D0 ys Wm hD0 rfl ⟨⟨hn, hbW⟩, hp⟩ hK0
        simp only [List.length_range] at hn hp
        have hmm : min (7 : Int) (max 1 many) = 7 := by omega
        obtain ⟨cnt, hcnt⟩ : ∃ cnt, cnt = 7 := ⟨_, rfl⟩
        rw [← hcnt] at hn
        have hcnt0 : (cnt : Int) = min (7 : Int) (max 1 many) := by omega
        clear hcnt hmm hp
        have hb2 : Below w2.heap.size w2 Wm := bl0.trans (hbW.mono (by omega))
        have q1 := (boxed_below X.out.1 hb2 X.out.1.lt).cell
        have qt := (boxed_below bu0 hbW (by omega)).cell
        have qn := hn.cell
        have hc1 : (cnt : Int) ≤ 7 := by omega
        have hc2 : (cnt : Int) ≤ many ∨ (many ≤ 1 ∧ (cnt : Int) ≤ 1) := by omega
        have hc3 : (7 : Int) ≤ cnt ∨ (many ≤ cnt ∧ 1 ≤ (cnt : Int)) := by omega
        have hlD0 : D0 < Wm.heap.size := (Array.getElem?_eq_some_iff.1 hK0).1
        clear hcnt0
        gi_upto_region 27 with (fail)
        gi_cut [134] from 118 (fun s wx => s = .bool false ∧ Wm = wx)
        case first =>
          gi_wp2
          all_goals (gi_meet; case rel => exact ⟨rfl, rfl⟩)
        case rest =>
          obtain ⟨rfl, hwc⟩ := hcut
          subst hwc
          gi_wp2_with fail
          have bt1 := Boxed.new Wm 3 (.int .i64 1)
          have bb1 : Below w2.heap.size w2 (Wm.alloc (.cells #[.int .i64 1] 3)) := balloc hb2 _
          have hK0a : (Wm.alloc (.cells #[.int .i64 1] 3)).heap[D0]? = some (.deferred (some [])) := (Below.heap_alloc Wm _ D0 hlD0).trans hK0
          generalize hg1 : Wm.alloc (.cells #[.int .i64 1] 3) = Wr1 at *
          clear hg1 hK0 q1 qt qn hc1 hc2 hc3
          rw [roundsIn_succ]
          have ct1 := bt1.cell
          gi_wp2_with fail
          have bn1 := Boxed.new Wr1 3 (.int .i64 0)
          have bl1 : Below w2.heap.size w2 (Wr1.alloc (.cells #[.int .i64 0] 3)) := balloc bb1 _
          have hK0n : (Wr1.alloc (.cells #[.int .i64 0] 3)).heap[D0]? = some (.deferred (some [])) := (Below.heap_alloc Wr1 _ D0 (Array.getElem?_eq_some_iff.1 hK0a).1).trans hK0a
          have hlD0n := (Array.getElem?_eq_some_iff.1 hK0a).1
          clear hK0a
          have bu1 := bt1.alloc (.cells #[.int .i64 0] 3)
          have hlt1 := bt1.lt
          have hnl1 := bn1.lt
          have hwr1 := bb1.size
          generalize hgn1 : Wr1.alloc (.cells #[.int .i64 0] 3) = Wn1 at *
          generalize hbn1 : Wr1.heap.size = Bn1 at *
          clear hgn1 ct1
          refine range_own rfl (by omega) (gf := 42) (lb := lb) rfl trivial (enters_of Tryd.func42 (by kernel_rfl) rfl)
            (sp_stops 5 (by omega) Bn1 (Wn1.heap.size + 2) p j t h g q s lb Wn1 w2 X.out.2.2.2.2.2 bl1 (by omega) (by omega)) KR.trans (fun W o _ => KR.put W o (by omega) (by omega)) (Below.refl _ _) (fun _ => rfl)
            (RI Wn1 Bn1 (fun _ => True)) (RX Wn1 Bn1 4 (fun _ => False)) (RI_st hnl1) (RX_st hnl1) ⟨⟨bn1, Below.refl _ _⟩, by simp⟩ ?a11 ?assign1 ?body1 ?done1 ?stop1
          case assign1 =>
            intro lp y W K hK
            simp only [spEs]
            gi_wp2
            exact hK
          case body1 =>
            rintro lp pre y W ⟨⟨hn, hbW⟩, hp⟩ hlt
            try dsimp only at hp
            have hb2 : Below w2.heap.size w2 W := bl1.trans (hbW.mono (by omega))
            have q1 := (boxed_below X.out.1 hb2 X.out.1.lt).cell
            have z2 := boxed_below X.out.2.1 hb2 X.out.2.1.lt
            have q2 := z2.cell
            have k2 := z2.frozen
            have qt := (boxed_below bu1 hbW (by omega)).cell
            have qn := hn.cell
            have kn := hn.frozen
            have e0 := ((X.out.2.2.2.1.below hb2 X.out.2.2.2.1.lt).cell pre.length).trans (nms_at pre.length hlt)
            have e1 := ((X.out.2.2.1.below hb2 X.out.2.2.1.lt).cell pre.length).trans (sps_at pre.length p j t h g q s hlt)
            try dsimp only
            have hi1 : (0 : Int) ≤ pre.length ∧ (pre.length : Int) < (7 : Int) := by omega
            have hi2 : decide ((7 : Int) ≤ (pre.length : Int)) = false := by simp; omega
            have hsame : y = pre.length → ((nmS y).toList = (nmS pre.length).toList ∧ spanS y p j t h g q s = spanS pre.length p j t h g q s) := fun h => by rw [h]; exact ⟨rfl, rfl⟩
            clear z2
            generalize nmS y = ya at *
            generalize spanS y p j t h g q s = yb at *
            generalize nmS pre.length = va at *
            generalize spanS pre.length p j t h g q s = vb at *
            have HSM := Lib.hid hsame
            clear hsame
            by_cases hv : ya.toList = va.toList ∧ yb = vb
            · obtain ⟨hv1, rfl⟩ := hv
              have hNE : (ya.toList == va.toList) = true := by rw [hv1]; simp
              clear hv1
              have hIn : Boxed (W.setCell ⟨Bn1, 0, none⟩ (.int .i64 (pre ++ [y]).length)) Bn1 3 (.int .i64 (pre ++ [y]).length) := hn.set _
              have hBn : Below Bn1 Wn1 (W.setCell ⟨Bn1, 0, none⟩ (.int .i64 (pre ++ [y]).length)) := hbW.setCell (p := ⟨Bn1, 0, none⟩) (Nat.le_refl _) _
              simp only [List.length_append, List.length_singleton, Int.natCast_add, Int.natCast_one] at hIn hBn
              have qn2 := hIn.cell
              have HIN := Lib.hid hIn
              have HBN := Lib.hid hBn
              clear hIn hBn
              have KF : KeepsFrom Wn1.heap.size W (W.setCell ⟨Bn1, 0, none⟩ (.int .i64 ((pre.length : Int) + 1))) := (KeepsOthers.setCell _ _ _).from _
              have KB : KR Bn1 (Wn1.heap.size + 2) W (W.setCell ⟨Bn1, 0, none⟩ (.int .i64 ((pre.length : Int) + 1))) := KR.set W _ (Nat.le_refl _) (by omega)
              have qt2 : (W.setCell ⟨Bn1, 0, none⟩ (.int .i64 ((pre.length : Int) + 1))).cell? ⟨(Wm.heap.size), 0, none⟩ = some (.int .i64 1) := (KB.1.cell (p := ⟨(Wm.heap.size), 0, none⟩) (by show (Wm.heap.size) < _; omega)).trans qt
              have qm2 : (W.setCell ⟨Bn1, 0, none⟩ (.int .i64 ((pre.length : Int) + 1))).cell? ⟨w.heap.size + 1 + 1, 0, none⟩ = some (.int .i64 many) := (KB.1.cell (p := ⟨w.heap.size + 1 + 1, 0, none⟩) (by show w.heap.size + 1 + 1 < _; omega)).trans q1
              gi_wp2
              exact ⟨KF, KB, ⟨by simpa using HIN.out, by simpa using HBN.out⟩, trivial⟩
            · have HV := Lib.hid hv
              by_cases hv1 : ya.toList = va.toList
              · have hNE : (ya.toList == va.toList) = true := by rw [hv1]; simp
                have hNS : (yb != vb) = true := by simp; exact fun h => hv ⟨hv1, h⟩
                clear hv hv1
                gi_wp2
                exact ⟨(KeepsOthers.setCell _ _ _).from _, .inl ⟨rfl, fun h => HV.out (HSM.out (range_last h).1)⟩⟩
              · have hNE : (ya.toList == va.toList) = false := by rw [Bool.eq_false_iff]; intro h; exact hv1 (beq_iff_eq.1 h)
                clear hv hv1
                gi_wp2
                exact ⟨(KeepsOthers.setCell _ _ _).from _, .inl ⟨rfl, fun h => HV.out (HSM.out (range_last h).1)⟩⟩
          case done1 =>
            rintro D1 ys We hD1 rfl ⟨⟨hn, hbW⟩, hp⟩ hK1
            simp only [List.length_range] at hn
            have hb2 : Below w2.heap.size w2 We := bl1.trans (hbW.mono (by omega))
            have q1 := (boxed_below X.out.1 hb2 X.out.1.lt).cell
            have qt := (boxed_below bu1 hbW (by omega)).cell
            have qn := hn.cell
            have hlD1 : D1 < We.heap.size := (Array.getElem?_eq_some_iff.1 hK1).1
            have hK0e : We.heap[D0]? = some (.deferred (some [])) := (hbW.block D0 (by omega)).trans hK0n
            have hne : D0 ≠ D1 := by omega
            clear hK0n
            gi_wp2_with fail
            rw [roundsIn_succ]
            have btf := (Boxed.new We 3 (.int .i64 2)).cell
            have bbf : Below We.heap.size We (We.alloc (.cells #[.int .i64 2] 3)) := balloc (Below.refl _ _) _
            generalize hgf : We.alloc (.cells #[.int .i64 2] 3) = Wf at *
            have hb3 := bnext hb2 bbf
            have HF := Lib.hid (And.intro ((bbf.block D0 (by omega)).trans hK0e) ((bbf.block D1 hlD1).trans hK1))
            have hzf := bbf.size
            clear hgf hK0e hK1
            gi_wp2_with (first | (refine ⟨trivial, ?_⟩; gi_at_call 9; refine (callsIn_wide.2 (HWK.out _ (bnext X.out.2.2.2.2.1 hb3))).mono ?_; rintro e w9 ⟨rfl, b9⟩; have z9 := boxed_below X.out.2.1 (bnext hb3 b9) X.out.2.1.lt; have q9 := z9.cell; have k9 := z9.frozen))
            have K1 : w9.heap[D1]? = some (.deferred (some [])) := (b9.block D1 (by omega)).trans HF.out.2
            have K0 : w9.heap[D0]? = some (.deferred (some [])) := (b9.block D0 (by omega)).trans HF.out.1
            have K1' := (KeepsOthers.setCell w9 ⟨w.heap.size + 1 + 1 + 1, 0, none⟩ (.bool true)).same D1 _ K1 rfl
            have K0' := (KeepsOthers.setCell w9 ⟨w.heap.size + 1 + 1 + 1, 0, none⟩ (.bool true)).same D0 _ K0 rfl
            have r9 := (z9.set (.bool true)).cell
            have b10 : Below w.heap.size w (w9.setCell ⟨w.heap.size + 1 + 1 + 1, 0, none⟩ (.bool true)) := (bnext (bnext X.out.2.2.2.2.1 hb3) b9).setCell (p := ⟨w.heap.size + 1 + 1 + 1, 0, none⟩) (by show w.heap.size ≤ w.heap.size + 1 + 1 + 1; omega) _
            generalize w9.setCell ⟨w.heap.size + 1 + 1 + 1, 0, none⟩ (.bool true) = wz at *
            have K0'' : (wz.putObj D1 (.deferred none)).heap[D0]? = some (.deferred (some [])) := by rw [World.putObj_heap_other hne]; exact K0'
            have r10 := cell_kept r9 (grownBy_putObj' _ D1 (.deferred none)) (fun r e => by cases e; exact ⟨_, K1', rfl⟩)
            have r11 := cell_kept r10 (grownBy_putObj' _ D0 (.deferred none)) (fun r e => by cases e; exact ⟨_, K0'', rfl⟩)
            refine ⟨by simp, .inl ⟨_, _, rfl, run_takeDeferred K1', ?_⟩⟩
            refine ⟨by simp, .inl ⟨_, _, rfl, run_takeDeferred K0'', ?_⟩⟩
            refine ⟨.bool true, by simp [results, Tryd.f7, go_sem, r11], rfl, ?_⟩
            exact (b10.trans (belowK_b (w := w) (Nat.le_refl _) _ D1 _ _ (by omega) K1' rfl rfl)).trans (belowK_b (w := w) (Nat.le_refl _) _ D0 _ _ (by omega) K0'' rfl rfl)
          case stop1 =>
            rintro D1 cc pre We hD1 ⟨jj, hjj, rfl⟩ hX hK1
            rcases hX with ⟨_, h⟩ | ⟨_, _, hp⟩
            · exact (h (by simp)).elim
            · exact hp.elim
      case stop0 =>
        rintro D0 cc pre Wm hD0 ⟨jj, hjj, rfl⟩ hX hK0
        rcases hX with ⟨_, h⟩ | ⟨rfl, ⟨hn, hbW⟩, hp⟩
        · exact (h (by simp)).elim
        simp only [List.length_range] at hn hp
        have hcnt0 : (jj : Int) = min (7 : Int) (max 1 many) := by omega
        obtain ⟨cnt, rfl⟩ : ∃ cnt, cnt = jj := ⟨_, rfl⟩
        clear hp hjj
        have hb2 : Below w2.heap.size w2 Wm := bl0.trans (hbW.mono (by omega))
        have q1 := (boxed_below X.out.1 hb2 X.out.1.lt).cell
        have qt := (boxed_below bu0 hbW (by omega)).cell
        have qn := hn.cell
        have hc1 : (cnt : Int) ≤ 7 := by omega
        have hc2 : (cnt : Int) ≤ many ∨ (many ≤ 1 ∧ (cnt : Int) ≤ 1) := by omega
        have hc3 : (7 : Int) ≤ cnt ∨ (many ≤ cnt ∧ 1 ≤ (cnt : Int)) := by omega
        have hlD0 : D0 < Wm.heap.size := (Array.getElem?_eq_some_iff.1 hK0).1
        clear hcnt0
        gi_upto_region 27 with (fail)
        gi_cut [134] from 118 (fun s wx => s = .bool false ∧ Wm = wx)
        case first =>
          gi_wp2
          all_goals (gi_meet; case rel => exact ⟨rfl, rfl⟩)
        case rest =>
          obtain ⟨rfl, hwc⟩ := hcut
          subst hwc
          gi_wp2_with fail
          have bt1 := Boxed.new Wm 3 (.int .i64 1)
          have bb1 : Below w2.heap.size w2 (Wm.alloc (.cells #[.int .i64 1] 3)) := balloc hb2 _
          have hK0a : (Wm.alloc (.cells #[.int .i64 1] 3)).heap[D0]? = some (.deferred (some [])) := (Below.heap_alloc Wm _ D0 hlD0).trans hK0
          generalize hg1 : Wm.alloc (.cells #[.int .i64 1] 3) = Wr1 at *
          clear hg1 hK0 q1 qt qn hc1 hc2 hc3
          rw [roundsIn_succ]
          have ct1 := bt1.cell
          gi_wp2_with fail
          have bn1 := Boxed.new Wr1 3 (.int .i64 0)
          have bl1 : Below w2.heap.size w2 (Wr1.alloc (.cells #[.int .i64 0] 3)) := balloc bb1 _
          have hK0n : (Wr1.alloc (.cells #[.int .i64 0] 3)).heap[D0]? = some (.deferred (some [])) := (Below.heap_alloc Wr1 _ D0 (Array.getElem?_eq_some_iff.1 hK0a).1).trans hK0a
          have hlD0n := (Array.getElem?_eq_some_iff.1 hK0a).1
          clear hK0a
          have bu1 := bt1.alloc (.cells #[.int .i64 0] 3)
          have hlt1 := bt1.lt
          have hnl1 := bn1.lt
          have hwr1 := bb1.size
          generalize hgn1 : Wr1.alloc (.cells #[.int .i64 0] 3) = Wn1 at *
          generalize hbn1 : Wr1.heap.size = Bn1 at *
          clear hgn1 ct1
          refine range_own rfl (by omega) (gf := 42) (lb := lb) rfl trivial (enters_of Tryd.func42 (by kernel_rfl) rfl)
            (sp_stops 5 (by omega) Bn1 (Wn1.heap.size + 2) p j t h g q s lb Wn1 w2 X.out.2.2.2.2.2 bl1 (by omega) (by omega)) KR.trans (fun W o _ => KR.put W o (by omega) (by omega)) (Below.refl _ _) (fun _ => rfl)
            (RI Wn1 Bn1 (fun _ => True)) (RX Wn1 Bn1 4 (fun _ => False)) (RI_st hnl1) (RX_st hnl1) ⟨⟨bn1, Below.refl _ _⟩, by simp⟩ ?b11 ?bssign1 ?bbody1 ?bdone1 ?bstop1
          case bssign1 =>
            intro lp y W K hK
            simp only [spEs]
            gi_wp2
            exact hK
          case bbody1 =>
            rintro lp pre y W ⟨⟨hn, hbW⟩, hp⟩ hlt
            try dsimp only at hp
            have hb2 : Below w2.heap.size w2 W := bl1.trans (hbW.mono (by omega))
            have q1 := (boxed_below X.out.1 hb2 X.out.1.lt).cell
            have z2 := boxed_below X.out.2.1 hb2 X.out.2.1.lt
            have q2 := z2.cell
            have k2 := z2.frozen
            have qt := (boxed_below bu1 hbW (by omega)).cell
            have qn := hn.cell
            have kn := hn.frozen
            have e0 := ((X.out.2.2.2.1.below hb2 X.out.2.2.2.1.lt).cell pre.length).trans (nms_at pre.length hlt)
            have e1 := ((X.out.2.2.1.below hb2 X.out.2.2.1.lt).cell pre.length).trans (sps_at pre.length p j t h g q s hlt)
            try dsimp only
            have hi1 : (0 : Int) ≤ pre.length ∧ (pre.length : Int) < (7 : Int) := by omega
            have hi2 : decide ((7 : Int) ≤ (pre.length : Int)) = false := by simp; omega
            have hsame : y = pre.length → ((nmS y).toList = (nmS pre.length).toList ∧ spanS y p j t h g q s = spanS pre.length p j t h g q s) := fun h => by rw [h]; exact ⟨rfl, rfl⟩
            clear z2
            generalize nmS y = ya at *
            generalize spanS y p j t h g q s = yb at *
            generalize nmS pre.length = va at *
            generalize spanS pre.length p j t h g q s = vb at *
            have HSM := Lib.hid hsame
            clear hsame
            by_cases hv : ya.toList = va.toList ∧ yb = vb
            · obtain ⟨hv1, rfl⟩ := hv
              have hNE : (ya.toList == va.toList) = true := by rw [hv1]; simp
              clear hv1
              have hIn : Boxed (W.setCell ⟨Bn1, 0, none⟩ (.int .i64 (pre ++ [y]).length)) Bn1 3 (.int .i64 (pre ++ [y]).length) := hn.set _
              have hBn : Below Bn1 Wn1 (W.setCell ⟨Bn1, 0, none⟩ (.int .i64 (pre ++ [y]).length)) := hbW.setCell (p := ⟨Bn1, 0, none⟩) (Nat.le_refl _) _
              simp only [List.length_append, List.length_singleton, Int.natCast_add, Int.natCast_one] at hIn hBn
              have qn2 := hIn.cell
              have HIN := Lib.hid hIn
              have HBN := Lib.hid hBn
              clear hIn hBn
              have KF : KeepsFrom Wn1.heap.size W (W.setCell ⟨Bn1, 0, none⟩ (.int .i64 ((pre.length : Int) + 1))) := (KeepsOthers.setCell _ _ _).from _
              have KB : KR Bn1 (Wn1.heap.size + 2) W (W.setCell ⟨Bn1, 0, none⟩ (.int .i64 ((pre.length : Int) + 1))) := KR.set W _ (Nat.le_refl _) (by omega)
              have qt2 : (W.setCell ⟨Bn1, 0, none⟩ (.int .i64 ((pre.length : Int) + 1))).cell? ⟨(Wm.heap.size), 0, none⟩ = some (.int .i64 1) := (KB.1.cell (p := ⟨(Wm.heap.size), 0, none⟩) (by show (Wm.heap.size) < _; omega)).trans qt
              have qm2 : (W.setCell ⟨Bn1, 0, none⟩ (.int .i64 ((pre.length : Int) + 1))).cell? ⟨w.heap.size + 1 + 1, 0, none⟩ = some (.int .i64 many) := (KB.1.cell (p := ⟨w.heap.size + 1 + 1, 0, none⟩) (by show w.heap.size + 1 + 1 < _; omega)).trans q1
              gi_wp2
              exact ⟨KF, KB, ⟨by simpa using HIN.out, by simpa using HBN.out⟩, trivial⟩
            · have HV := Lib.hid hv
              by_cases hv1 : ya.toList = va.toList
              · have hNE : (ya.toList == va.toList) = true := by rw [hv1]; simp
                have hNS : (yb != vb) = true := by simp; exact fun h => hv ⟨hv1, h⟩
                clear hv hv1
                gi_wp2
                exact ⟨(KeepsOthers.setCell _ _ _).from _, .inl ⟨rfl, fun h => HV.out (HSM.out (range_last h).1)⟩⟩
              · have hNE : (ya.toList == va.toList) = false := by rw [Bool.eq_false_iff]; intro h; exact hv1 (beq_iff_eq.1 h)
                clear hv hv1
                gi_wp2
                exact ⟨(KeepsOthers.setCell _ _ _).from _, .inl ⟨rfl, fun h => HV.out (HSM.out (range_last h).1)⟩⟩
          case bdone1 =>
            rintro D1 ys We hD1 rfl ⟨⟨hn, hbW⟩, hp⟩ hK1
            simp only [List.length_range] at hn
            have hb2 : Below w2.heap.size w2 We := bl1.trans (hbW.mono (by omega))
            have q1 := (boxed_below X.out.1 hb2 X.out.1.lt).cell
            have qt := (boxed_below bu1 hbW (by omega)).cell
            have qn := hn.cell
            have hlD1 : D1 < We.heap.size := (Array.getElem?_eq_some_iff.1 hK1).1
            have hK0e : We.heap[D0]? = some (.deferred (some [])) := (hbW.block D0 (by omega)).trans hK0n
            have hne : D0 ≠ D1 := by omega
            clear hK0n
            gi_wp2_with fail
            rw [roundsIn_succ]
            have btf := (Boxed.new We 3 (.int .i64 2)).cell
            have bbf : Below We.heap.size We (We.alloc (.cells #[.int .i64 2] 3)) := balloc (Below.refl _ _) _
            generalize hgf : We.alloc (.cells #[.int .i64 2] 3) = Wf at *
            have hb3 := bnext hb2 bbf
            have HF := Lib.hid (And.intro ((bbf.block D0 (by omega)).trans hK0e) ((bbf.block D1 hlD1).trans hK1))
            have hzf := bbf.size
            clear hgf hK0e hK1
            gi_wp2_with (first | (refine ⟨trivial, ?_⟩; gi_at_call 9; refine (callsIn_wide.2 (HWK.out _ (bnext X.out.2.2.2.2.1 hb3))).mono ?_; rintro e w9 ⟨rfl, b9⟩; have z9 := boxed_below X.out.2.1 (bnext hb3 b9) X.out.2.1.lt; have q9 := z9.cell; have k9 := z9.frozen))
            have K1 : w9.heap[D1]? = some (.deferred (some [])) := (b9.block D1 (by omega)).trans HF.out.2
            have K0 : w9.heap[D0]? = some (.deferred (some [])) := (b9.block D0 (by omega)).trans HF.out.1
            have K1' := (KeepsOthers.setCell w9 ⟨w.heap.size + 1 + 1 + 1, 0, none⟩ (.bool true)).same D1 _ K1 rfl
            have K0' := (KeepsOthers.setCell w9 ⟨w.heap.size + 1 + 1 + 1, 0, none⟩ (.bool true)).same D0 _ K0 rfl
            have r9 := (z9.set (.bool true)).cell
            have b10 : Below w.heap.size w (w9.setCell ⟨w.heap.size + 1 + 1 + 1, 0, none⟩ (.bool true)) := (bnext (bnext X.out.2.2.2.2.1 hb3) b9).setCell (p := ⟨w.heap.size + 1 + 1 + 1, 0, none⟩) (by show w.heap.size ≤ w.heap.size + 1 + 1 + 1; omega) _
            generalize w9.setCell ⟨w.heap.size + 1 + 1 + 1, 0, none⟩ (.bool true) = wz at *
            have K0'' : (wz.putObj D1 (.deferred none)).heap[D0]? = some (.deferred (some [])) := by rw [World.putObj_heap_other hne]; exact K0'
            have r10 := cell_kept r9 (grownBy_putObj' _ D1 (.deferred none)) (fun r e => by cases e; exact ⟨_, K1', rfl⟩)
            have r11 := cell_kept r10 (grownBy_putObj' _ D0 (.deferred none)) (fun r e => by cases e; exact ⟨_, K0'', rfl⟩)
            refine ⟨by simp, .inl ⟨_, _, rfl, run_takeDeferred K1', ?_⟩⟩
            refine ⟨by simp, .inl ⟨_, _, rfl, run_takeDeferred K0'', ?_⟩⟩
            refine ⟨.bool true, by simp [results, Tryd.f7, go_sem, r11], rfl, ?_⟩
            exact (b10.trans (belowK_b (w := w) (Nat.le_refl _) _ D1 _ _ (by omega) K1' rfl rfl)).trans (belowK_b (w := w) (Nat.le_refl _) _ D0 _ _ (by omega) K0'' rfl rfl)
          case bstop1 =>
            rintro D1 cc pre We hD1 ⟨jj, hjj, rfl⟩ hX hK1
            rcases hX with ⟨_, h⟩ | ⟨_, _, hp⟩
            · exact (h (by simp)).elim
            · exact hp.elim
end Go.Proofs.YtcinggnhfgkahaaDoor
