/- config.Spans and its iterator; the document's names. -/
import Derived.Test.YtcinggnhfgkahaaDoorCfgS
import Derived.Test.YtcinggnhfgkahaaDoorRng
import Derived.Test.YtcinggnhfgkahaaDoorRngQ
import Derived.Test.YtcinggnhfgkahaaDoorRngW
import Derived.Stop.RegionWithIn
namespace Go.Proofs.YtcinggnhfgkahaaDoor
set_option linter.unusedVariables false
set_option linter.unusedSimpArgs false
open Go.RowKit Go.Shelf
attribute [local go_sem] Oper.semAt_some
set_option maxRecDepth 100000
/-- what the iterator hands on -/
def spEs (p j t h g q s : Int) (i : Nat) : Array Value := #[.string (nmS i), .int .i64 (spanS i p j t h g q s)]
/-- a round keeps what lies below lo and from hi on -/
def KR (lo hi : Nat) (A B : World) : Prop := Below lo A B ∧ ∀ k, hi ≤ k → k < A.heap.size → B.heap[k]? = A.heap[k]?
theorem KR.put {lo hi l : Nat} (W : World) (o : Obj) (h1 : lo ≤ l) (h2 : l < hi) : KR lo hi W (W.putObj l o) :=
  ⟨below_putObj _ _ _ h1, fun k hk _ => World.putObj_heap_other (by omega)⟩
theorem KR.blk {lo hi : Nat} {A B : World} {g : Nat} {t : TypeId} {cs : Array Value} (h : KR lo hi A B) (hb : Blk A g t cs) (hg : hi ≤ g) : Blk B g t cs := (h.2 g hg hb.lt).trans hb
theorem KR.trans {lo hi : Nat} {A B C : World} (h : KR lo hi A B) (k : KR lo hi B C) : KR lo hi A C := ⟨h.1.trans k.1, fun q h1 h2 => (k.2 q h1 (Nat.lt_of_lt_of_le h2 h.1.size)).trans (h.2 q h1 h2)⟩
theorem stable_below {J : List Nat → World → Prop} {W X Y : World} {pre : List Nat} (h : Stable W.heap.size J) (hJ : J pre X) (hX : W.heap.size ≤ X.heap.size) (hb : Below X.heap.size X Y) : J pre Y := h _ _ _ hJ (hb.mono hX)
theorem oneB {e : Ending} {A B C : Prop} (h : (e = .returned (.bool true) ∧ A ∧ B) ∨ (e = .returned (.bool false) ∧ C)) : ∃ b, e = .returned (.bool b) ∧ ((b = true ∧ A ∧ B) ∨ (b = false ∧ C)) := by
  rcases h with ⟨rfl, h⟩ | ⟨rfl, h⟩
  · exact ⟨true, rfl, .inl ⟨rfl, h⟩⟩
  · exact ⟨false, rfl, .inr ⟨rfl, h⟩⟩
set_option maxHeartbeats 8000000 in
theorem sp1_in (fu : Nat) (hfu : 1 ≤ fu) (lb Bd lo hi : Nat) (p j t h g q s cp : Int) (A : Option Addr) (n k : Nat)
    (J Jx : List Nat → World → Prop) (W : World) (hJ : Stable W.heap.size J)
    (hY : ∀ pre x W1, J pre W1 → pre.length < 7 → YieldAt Fence.wide (fu - 1) Tryd.prog lb (spEs p j t h g q s x) W1 fun e W' =>
      (e = .returned (.bool true) ∧ J (pre ++ [x]) W' ∧ KR lo hi W1 W') ∨ (e = .returned (.bool false) ∧ Jx (pre ++ [x]) W'))
    (hBd : Blk W Bd 24 #[.int .i64 p, .int .i64 j, .int .i64 t, .int .i64 h, .int .i64 g, .int .i64 q, .int .i64 s, .int .i64 cp, .slice A n k]) (h2 : Bd < lo) (hlo : lo ≤ W.heap.size) (hhi : hi ≤ W.heap.size) (h0 : J [] W) :
    CallsIn Fence.wide fu Tryd.prog 42 #[.func (.yield lb) #[] #[], .pointer (some ⟨Bd, 0, none⟩)] W fun e W' => (∃ v, e = .returned v) ∧
      ((∃ ys, ys = List.range 7 ∧ J ys W') ∨ (∃ pre, (∃ j, j ≤ 7 ∧ pre = List.range j) ∧ Jx pre W')) := by
  have HY := Lib.hid hY
  have HJ := Lib.hid hJ
  have HSP := Lib.hid (fun W => spans_any W)
  have HBD := Lib.hid hBd
  clear hY hJ hBd
  refine callsIn_of_wp Tryd.func42 rfl trivial ?_ rfl
  simp only [Tryd.ntmps42, List.size_toArray, List.length_cons, List.length_nil, Nat.reduceAdd, Nat.reduceSub, Array.replicate_succ, Array.replicate_zero, List.push_toArray, List.append_toArray, List.nil_append, List.cons_append]
  refine scope_in ?_
  gi_wp2_with fail
  refine wpIn_label ?_
  gi_wp2_with fail
  refine ⟨trivial, ?_⟩
  refine (callsIn_wide.2 (HSP.out _)).mono ?_
  rintro e w0 ⟨rfl, hT, hb0⟩
  have J0 := stable_below HJ.out h0 (Nat.le_refl _) hb0
  have hl0 := hT.lt
  gi_wp2_with fail
  gi_loopw [7] (fun i wr => ∃ c : Nat, c ≤ 7 ∧ i = .int .i64 c ∧ J (List.range c) wr ∧ Below lo W wr ∧ W.heap.size ≤ wr.heap.size ∧ Blk wr W.heap.size 73 (tabS 7)) (fun i _ => 7 - (intOf i).toNat)
  case atStart => exact ⟨0, Nat.zero_le _, rfl, J0, hb0.mono hlo, by omega, hT⟩
  case round =>
    obtain ⟨c, hc, rfl, hJc, hb, hsz, hT1⟩ := hrel
    clear hT hb0 J0 hl0
    by_cases hlt : c < 7
    · have a0 := hT1.cell (c * 3)
      have a1 := hT1.cell (c * 3 + 1)
      have a2 := hT1.cell (c * 3 + 2)
      have ht := tabS_at 7 c hlt
      rw [ht.1] at a0
      rw [ht.2.1] at a1
      rw [ht.2.2] at a2
      rw [if_pos hlt] at a0
      have hK1 := HBD.out.below hb h2
      have HT1 := Lib.hid hT1
      have HB := Lib.hid hb
      have hcall := fun W => spanOf_any c p j t h g q s cp A n k W hlt
      have hent := enterS c hlt
      have hE : spEs p j t h g q s c = #[.string (nmS c), .int .i64 (spanS c p j t h g q s)] := rfl
      generalize hnm : nmS c = nm at *
      generalize hsp : spanS c p j t h g q s = sp at *
      generalize hls : lstS c = ls at *
      generalize hfn : fnS c = fn at *
      have bW1 : Below wr.heap.size wr ((wr.alloc (.cells #[.string nm, .int .i64 ls, .func (.func fn) #[] #[]] 73)).alloc (.cells #[.int .i64 p, .int .i64 j, .int .i64 t, .int .i64 h, .int .i64 g, .int .i64 q, .int .i64 s, .int .i64 cp, .slice A n k] 24)).drew := Below.drew (balloc (balloc (Below.refl _ _) _) _)
      obtain ⟨fn2, tmps, assign, body, hy, hR⟩ := HY.out (List.range c) c _ (stable_below HJ.out hJc hsz bW1) (by simpa using hlt)
      rw [hE] at hy
      have HB1 := Lib.hid (hb.trans (bW1.mono (Nat.le_trans hlo hsz)))
      have HT2 := Lib.hid (hT1.below bW1 hT1.lt)
      have HS1 := Lib.hid (Nat.le_trans hsz bW1.size)
      have HR := Lib.hid hR
      have CC := Lib.hid hcall
      have hltT := hT1.lt
      have hltB := hK1.lt
      have hK2 := hK1.alloc (.cells #[.string nm, .int .i64 ls, .func (.func fn) #[] #[]] 73)
      have hK3 := hK2.alloc (.cells #[.int .i64 p, .int .i64 j, .int .i64 t, .int .i64 h, .int .i64 g, .int .i64 q, .int .i64 s, .int .i64 cp, .slice A n k] 24)
      have hX2 := (Blk.new wr 73 #[.string nm, .int .i64 ls, .func (.func fn) #[] #[]])
      have hX3 := hX2.alloc (.cells #[.int .i64 p, .int .i64 j, .int .i64 t, .int .i64 h, .int .i64 g, .int .i64 q, .int .i64 s, .int .i64 cp, .slice A n k] 24)
      have k0 := (hK2).cell 0
      have k1 := (hK2).cell 1
      have k2 := (hK2).cell 2
      have k3 := (hK2).cell 3
      have k4 := (hK2).cell 4
      have k5 := (hK2).cell 5
      have k6 := (hK2).cell 6
      have k7 := (hK2).cell 7
      have k8 := (hK2).cell 8
      simp only [List.getElem?_toArray, List.getElem?_cons_zero, List.getElem?_cons_succ] at k0 k1 k2 k3 k4 k5 k6 k7 k8
      clear hR hcall hE hb hJc hT1 ht bW1 hnm hsp hls hfn hK1 hK2 hK3 hX2 hX3
      gi_wp2_with fail
      gi_region_with (first | (refine ⟨trivial, ?_⟩; refine (callsIn_wide.2 (CC.out _)).mono ?_; rintro e w' ⟨rfl, rfl⟩) | (refine HR.out.mono ?_; rintro e W3 hE; obtain ⟨b, rfl, hb⟩ := oneB hE) | fail)
      all_goals
        rcases hb with ⟨rfl, hJ3, hk3⟩ | ⟨rfl, hJx3⟩
        · gi_wp2_with fail
          go_roundw
          case rel => exact ⟨c + 1, by omega, by go_num, by rw [List.range_succ]; exact hJ3, HB1.out.trans hk3.1, Nat.le_trans HS1.out hk3.1.size, hk3.blk HT2.out hhi⟩
          case measure => simp [intOf]; omega
        · gi_wp2_with fail
          try rw [Exit.noGoto_normal]
          go_end0
          exact ⟨⟨_, rfl⟩, .inr ⟨_, ⟨c + 1, by omega, (List.range_succ).symm⟩, hJx3⟩⟩
    · obtain rfl : c = 7 := by omega
      gi_wp2_with fail
      rw [Exit.noGoto_normal]
      go_end0
      exact ⟨⟨_, rfl⟩, .inl ⟨_, rfl, hJc⟩⟩
/-- what Spans hands back: a function, and in a box the configuration -/
def IsSp (w : World) (p j t h g q s : Int) (lb : Array Value) : Prop :=
  ∃ Bd cp A n k, lb = #[.pointer (some ⟨Bd, 0, none⟩)] ∧ Blk w Bd 24 #[.int .i64 p, .int .i64 j, .int .i64 t, .int .i64 h, .int .i64 g, .int .i64 q, .int .i64 s, .int .i64 cp, .slice A n k]
theorem sp_stops (fu : Nat) (hfu : 1 ≤ fu) (lo hi : Nat) (p j t h g q s : Int) (lb : Array Value) (w w0 : World) (h0 : IsSp w0 p j t h g q s lb) (hb : Below w0.heap.size w0 w) (hlo : w0.heap.size ≤ lo) (hlo2 : lo ≤ w.heap.size) :
    SeqStopsW Fence.wide fu Tryd.prog 42 lb (spEs p j t h g q s) (KR lo hi) (fun ys => ys = List.range 7) (fun pre => ∃ j, j ≤ 7 ∧ pre = List.range j) 7 w hi := fun lp J Jx W hW hhi hJ _ hY hJ0 => by
  have hb2 : Below w0.heap.size w0 W := bnext hb hW
  obtain ⟨Bd, cp, A, n, k, rfl, h1⟩ := h0
  exact sp1_in fu hfu lp Bd lo hi p j t h g q s cp A n k J Jx W hJ hY (h1.below hb2 h1.lt) (Nat.lt_of_lt_of_le h1.lt hlo) (Nat.le_trans hlo2 hW.size) hhi hJ0
theorem spans_iter (p j t h g q s cp : Int) (A : Option Addr) (n k : Nat) (w : World) :
    Calls Tryd.prog 26 #[.agg #[.int .i64 p, .int .i64 j, .int .i64 t, .int .i64 h, .int .i64 g, .int .i64 q, .int .i64 s, .int .i64 cp, .slice A n k]] w fun e w' => ∃ lb, e = .returned (.func (.func 42) #[] lb) ∧ IsSp w' p j t h g q s lb ∧ Below w.heap.size w w' := by
  go_enter Tryd.func26, Tryd.ntmps26
  go_wp2_with fail
  try go_ret
  exact ⟨_, rfl, ⟨_, _, _, _, _, rfl, Blk.new w 24 #[.int .i64 p, .int .i64 j, .int .i64 t, .int .i64 h, .int .i64 g, .int .i64 q, .int .i64 s, .int .i64 cp, .slice A n k]⟩, balloc (Below.refl _ _) _⟩
end Go.Proofs.YtcinggnhfgkahaaDoor
