/- packet: the entries of bytes; entry.Each for a body that writes elsewhere; what Decode defers. -/
import Derived.Test.YtpadlillbofpnaaDoorPk3
import Derived.Test.YtpadlillbofpnaaDoorRngE
import Derived.Test.YtpadlillbofpnaaDoorRngS
import Derived.Test.YtpadlillbofpnaaDoorMarksD
namespace Go.Proofs.YtpadlillbofpnaaDoor
set_option linter.unusedVariables false
set_option linter.unusedSimpArgs false
open Go.RowKit Go.Shelf
attribute [local go_sem] Oper.semAt_some
set_option maxRecDepth 100000
def erOf (l : List UInt8) (i : Nat) : Er := ⟨fld (l.drop (i * 20)) 0 2, fld (l.drop (i * 20)) 2 2, fld (l.drop (i * 20)) 4 4, fld (l.drop (i * 20)) 8 4, fld (l.drop (i * 20)) 12 4, fld (l.drop (i * 20)) 16 4⟩
def ersOf (l : List UInt8) : List Er := (List.range (l.length / 20)).map (erOf l)
theorem ersOf_len (l : List UInt8) : (ersOf l).length = l.length / 20 := by simp [ersOf]
theorem entC_ers (l : List UInt8) : entC l (l.length / 20) = erC (ersOf l) := by
  unfold entC erC ersOf
  rw [List.flatMap_map]
  rfl
theorem ersOf_fit (l : List UInt8) : ∀ e ∈ ersOf l, fitR e := by
  intro e he
  obtain ⟨i, _, rfl⟩ := List.mem_map.1 he
  exact ⟨fld_lt _ 4 4, fld_lt _ 8 4, fld_lt _ 12 4, fld_lt _ 16 4⟩
theorem ersOf_ok (l : List UInt8) : (ersOf l).all okE = true := by
  rw [List.all_eq_true]
  intro e he
  obtain ⟨i, _, rfl⟩ := List.mem_map.1 he
  have h1 : fld (l.drop (i * 20)) 0 2 < 65536 := fld_lt _ 0 2
  have h2 : fld (l.drop (i * 20)) 2 2 < 65536 := fld_lt _ 2 2
  unfold okE rightF erOf
  exact decide_eq_true (by simp only; omega)
theorem WidthsAt.fr {w w' : World} {p : Nat → Prop} (h : WidthsAt w) (hf : Fr p w w') (hp : p 0) : WidthsAt w' := ⟨hf.cell h.1 hp, hf.cell h.2.1 hp, hf.cell h.2.2 hp⟩
theorem boxed_fr {W W' : World} {B : Nat} {t : TypeId} {v : Value} {p : Nat → Prop} (h : Boxed W B t v) (hf : Fr p W W') (hp : p B) : Boxed W' B t v := hf.blk h hp

set_option maxHeartbeats 2000000 in
theorem eeach2_in (n : Nat) (hn : 1 ≤ n) (lb Ba : Nat) (p : Nat → Prop) (l : List UInt8) (A : Option Addr) (c : Nat) (hlc : l.length ≤ c) (hc : c ≤ 9223372036854775807) (hl : l.length ≤ 1048576)
    (J Jx : List Nat → World → Prop) (W : World)
    (hY : ∀ pre x W1, J pre W1 → pre.length < l.length / 20 → YieldAt Fence.wide (n - 1) Tryd.prog lb (entEs l x) W1 fun e W' =>
      (e = .returned (.bool true) ∧ J (pre ++ [x]) W' ∧ Fr p W1 W') ∨ (e = .returned (.bool false) ∧ Jx (pre ++ [x]) W'))
    (hA : AbidesFrom W.heap.size J) (hw : WidthsAt W) (hpw : p 0) (hBa : Boxed W Ba 22 (.slice A l.length c)) (hpB : p Ba) (hr : RdP W p A (l.map b8)) (h0 : J [] W) :
    CallsIn Fence.wide n Tryd.prog 46 #[.func (.yield lb) #[] #[], .pointer (some ⟨Ba, 0, none⟩)] W fun e W' => (∃ v, e = .returned v) ∧
      ((∃ ys, ys = List.range (l.length / 20) ∧ J ys W') ∨ (∃ pre, (∃ j, j ≤ l.length / 20 ∧ pre = List.range j) ∧ Jx pre W')) := by
  have ca := hBa.cell
  have hNl : l.length / 20 * 20 ≤ l.length := Nat.div_mul_le_self _ _
  refine callsIn_of_wp Tryd.func46 rfl trivial ?_ rfl
  simp only [Tryd.ntmps46, List.size_toArray, List.length_cons, List.length_nil, Nat.reduceAdd, Nat.reduceSub, Array.replicate_succ, Array.replicate_zero, List.push_toArray, List.append_toArray, List.nil_append, List.cons_append]
  refine scope_in ?_
  gi_wp2_with fail
  refine wpIn_label ?_
  gi_wp2
  gi_loopw [9] (fun i wr => ∃ j : Nat, j ≤ l.length / 20 ∧ i = .int .i64 j ∧ J (List.range j) wr ∧ Fr p W wr) (fun i _ => l.length / 20 - (intOf i).toNat)
  case atStart => exact ⟨0, Nat.zero_le _, rfl, h0, Fr.refl⟩
  case round =>
    obtain ⟨j, hj, rfl, hJ, hb⟩ := hrel
    have ca' := (boxed_fr hBa hb hpB).cell
    have hsz : W.heap.size ≤ wr.heap.size := hb.2.2.2.1
    clear ca
    by_cases hlt : j < l.length / 20
    · have hjq : j * 20 + 20 ≤ l.length := by omega
      have hrd := rd_drop (hr.fr (q := fun _ => True) hb (fun _ h _ => h) (fun _ _ _ => trivial)).rd (j * 20) (by omega)
      have hlen : (l.drop (j * 20)).length = l.length - j * 20 := by simp
      have hcall := fun cc hcc hcc2 => eread_ok (l.drop (j * 20)) (A.map (fun x => x.add (j * 20))) cc wr (hw.fr hb hpw) hrd hcc hcc2 (by rw [hlen]; omega)
      rw [hlen] at hcall
      have hy0 := hY (List.range j) j
      have hE : entEs l j = #[.int .i64 j, .agg #[.int .i64 (fld (l.drop (j * 20)) 0 2), .int .i64 (fld (l.drop (j * 20)) 2 2), .int .u32 (fld (l.drop (j * 20)) 4 4), .int .u32 (fld (l.drop (j * 20)) 8 4), .int .u32 (fld (l.drop (j * 20)) 12 4), .int .u32 (fld (l.drop (j * 20)) 16 4)]] := rfl
      rw [hE] at hy0
      unfold readE at hcall
      generalize fld (l.drop (j * 20)) 0 2 = v0 at *
      generalize fld (l.drop (j * 20)) 2 2 = v1 at *
      generalize fld (l.drop (j * 20)) 4 4 = v2 at *
      generalize fld (l.drop (j * 20)) 8 4 = v3 at *
      generalize fld (l.drop (j * 20)) 12 4 = v4 at *
      generalize fld (l.drop (j * 20)) 16 4 = v5 at *
      have CC := Lib.hid hcall
      have HG := Lib.hid hy0
      have HF := Lib.hid hb
      have hnc : ¬ c = j * 20 := by omega
      clear hcall hlen hrd hy0 hE hb
      gi_wp2_with fail
      refine ⟨trivial, ?_⟩
      refine (callsIn_wide.2 (CC.out _ (by omega) (by omega))).mono ?_
      rintro e w2 ⟨rfl, b2⟩
      have b3 := balloc b2 (.cells #[.int .i64 v0, .int .i64 v1, .int .u32 v2, .int .u32 v3, .int .u32 v4, .int .u32 v5] 55)
      obtain ⟨fn, tmps, assign, body, hy, hR⟩ := HG.out _ (hA _ _ _ none hJ (below_none b3) (by simp)) (by simpa using hlt)
      have HF3 := Lib.hid (HF.out.trans (Fr.of_below b3))
      clear HG CC b2 b3
      gi_wp2
      refine hR.mono ?_
      rintro e W3 (⟨rfl, hJ3, hk3⟩ | ⟨rfl, hJx3⟩)
      · gi_wp2
        go_roundw
        case rel => exact ⟨j + 1, by omega, by go_num, by rw [List.range_succ]; exact hJ3, HF3.out.trans hk3⟩
        case measure => simp [intOf]; omega
      · gi_wp2
        rw [Exit.noGoto_normal]
        go_end0
        exact ⟨⟨_, rfl⟩, .inr ⟨_, ⟨j + 1, by omega, (List.range_succ).symm⟩, hJx3⟩⟩
    · obtain rfl : j = l.length / 20 := by omega
      gi_wp2_with fail
      rw [Exit.noGoto_normal]
      go_end0
      exact ⟨⟨_, rfl⟩, .inl ⟨_, rfl, hJ⟩⟩

/-- what Each hands back: a function, its bytes in a box, in blocks that meet a condition -/
def IsEach2 (w : World) (p : Nat → Prop) (l : List UInt8) (lb : Array Value) : Prop :=
  ∃ Ba A c, lb = #[.pointer (some ⟨Ba, 0, none⟩)] ∧ Boxed w Ba 22 (.slice A l.length c) ∧ p Ba ∧ l.length ≤ c ∧ c ≤ maxLen ∧ RdP w p A (l.map b8)
theorem IsEach2.fr {w w' : World} {p q r : Nat → Prop} {l : List UInt8} {lb : Array Value} (h : IsEach2 w p l lb) (hf : Fr r w w') (h1 : ∀ b, p b → b < w.heap.size → r b) (h2 : ∀ b, p b → b < w.heap.size → q b) : IsEach2 w' q l lb := by
  obtain ⟨Ba, A, c, e, k1, k2, k3, k4, k5⟩ := h
  exact ⟨Ba, A, c, e, boxed_fr k1 hf (h1 _ k2 k1.lt), h2 _ k2 k1.lt, k3, k4, k5.fr hf h1 h2⟩
set_option maxHeartbeats 1000000 in
theorem eeach2_any (l : List UInt8) (n : Nat) (hn : l.length = n) (A : Option Addr) (c B : Nat) (w : World) (h : Rd w B A (l.map b8)) (hB : B ≤ w.heap.size) (hl : n ≤ 1048576) :
    Calls Tryd.prog 26 #[.slice A n c] w fun e w' => ∃ lb, e = .returned (.func (.func 46) #[] lb) ∧ IsEach2 w' (fun b => w.heap.size ≤ b) l lb ∧ Below w.heap.size w w' := by
  have hmf : ∀ (fn : Fn) (first cap : Array Value) (w : World), (Instr.makeFunc fn first cap).run Tryd.prog w = .ok (.func fn first cap) w := fun _ _ _ _ => rfl
  have HN := Lib.hid hn
  clear hn
  go_enter Tryd.func26, Tryd.ntmps26
  go_wp2_with (go_at_call 45; refine (clone_any l _ HN.out _ _ B _ h hl hB).mono ?_; rintro e w1 ⟨A1, c1, rfl, hc1, hm1, hr1, hb1, hav⟩)
  go_ret
  refine ⟨_, rfl, ⟨_, A1, c1, rfl, ?_, hb1.size, hc1, hm1, ?_⟩, balloc hb1 _⟩
  · exact Boxed.new w1 _ _
  · exact (hr1.alloc (Nat.le_refl _) _).to (fun a e _ => hav a e)
theorem eeach2_stops (n : Nat) (hn : 1 ≤ n) (p : Nat → Prop) (l : List UInt8) (lb : Array Value) (w : World) (hl : l.length ≤ 1048576) (h0 : IsEach2 w p l lb) (hw : WidthsAt w) (hpw : p 0) :
    SeqStopsK Fence.wide n Tryd.prog 46 lb (entEs l) (Fr p) (fun ys => ys = List.range (l.length / 20)) (fun pre => ∃ j, j ≤ l.length / 20 ∧ pre = List.range j) (l.length / 20) w := fun lp J Jx W hW hA _ hY hJ0 => by
  obtain ⟨Ba, A, c, rfl, k1, k2, k3, k4, k5⟩ := h0.fr (q := p) (Fr.of_below (p := fun _ => True) hW) (fun _ _ _ => trivial) (fun _ h _ => h)
  exact eeach2_in n hn lp Ba p l A c k3 (by unfold maxLen at k4; omega) hl J Jx W hY hA (hw.below hW) hpw k1 k2 k5 hJ0

set_option maxHeartbeats 1000000 in
theorem pk_idle (b b' : Nat) (w : World) :
    CallsD Tryd.prog 23 #[.pointer (some ⟨b, 0, none⟩), .pointer (some ⟨b', 0, none⟩)] .returning w fun e u' w' => e = .returned (.tuple #[]) ∧ u' = .returning ∧ w' = w := by
  have hta : ∀ w, (Instr.typeAssert .nilIface 20 59 true).run Tryd.prog w = .ok (.tuple #[.int .i64 0, .bool false]) w := fun _ => by kernel_rfl
  refine callsD_of_wpS Tryd.func23 rfl fun c₀ cs hu => ?_
  simp only [Tryd.ntmps23, List.size_toArray, List.length_cons, List.length_nil, Nat.reduceAdd, Nat.reduceSub, Array.replicate_succ, Array.replicate_zero, List.push_toArray, List.append_toArray, List.nil_append, List.cons_append]
  apply wpS_seq
  apply wpS_region
  simp [wpOpsS, go_sem, recoverD, hu, Exit.thenS, hta]
  refine wpS_of_wp ?_
  go_wp2
  cases c₀
  simp_all [bodyPostS, results, Tryd.results23]

set_option maxHeartbeats 1000000 in
theorem pk_pan (b b' : Nat) (k : Int) (o0 o1 : Value) (older : List PanicEntry) (w : World) (hb : Blk w b 27 #[o0, o1]) (hb' : Blk w b' 28 #[.int .i64 0]) (hne : ¬ b = b') :
    CallsD Tryd.prog 23 #[.pointer (some ⟨b, 0, none⟩), .pointer (some ⟨b', 0, none⟩)] (.panicking ({ v := .iface 59 (.int .i64 k), recovered := false } :: older)) w fun e u' w' => e = .returned (.tuple #[]) ∧ u' = .panicking ({ v := .iface 59 (.int .i64 k), recovered := true } :: older) ∧
      (Blk w' b 27 #[.int .i64 0, .slice none 0 0] ∧ Blk w' b' 28 #[.int .i64 k] ∧ ∀ n, n ≤ b → n ≤ b' → Below n w w') := by
  have hta : ∀ w, (Instr.typeAssert (.iface 59 (.int .i64 k)) 20 59 true).run Tryd.prog w = .ok (.tuple #[.int .i64 k, .bool true]) w := fun _ => by kernel_rfl
  have d0 := (hb).cell 0
  have d1 := (hb).cell 1
  simp only [List.getElem?_toArray, List.getElem?_cons_zero, List.getElem?_cons_succ] at d0 d1
  have g0 := (hb').cell 0
  simp only [List.getElem?_toArray, List.getElem?_cons_zero, List.getElem?_cons_succ] at g0
  have f0 := hb.frozen 0
  have f1 := hb.frozen 1
  have f6 := hb'.frozen 0
  have hne' : ¬ b' = b := fun e => hne e.symm
  have HB := Lib.hid hb
  have HB' := Lib.hid hb'
  clear hb hb'
  refine callsD_of_wpS Tryd.func23 rfl fun c₀ cs hu => ?_
  simp only [Tryd.ntmps23, List.size_toArray, List.length_cons, List.length_nil, Nat.reduceAdd, Nat.reduceSub, Array.replicate_succ, Array.replicate_zero, List.push_toArray, List.append_toArray, List.nil_append, List.cons_append]
  apply wpS_seq
  apply wpS_region
  simp [wpOpsS, go_sem, recoverD, hu, Exit.thenS, hta]
  refine wpS_of_wp ?_
  go_wp2
  have h1 : Blk (((w.setCell ⟨b, 0, none⟩ (.int .i64 0)).setCell ⟨b, 1, none⟩ (.slice none 0 0)).setCell ⟨b', 0, none⟩ (.int .i64 k)) b 27 #[.int .i64 0, .slice none 0 0] := by
    have := ((HB.out.set 0 (.int .i64 0)).set 1 (.slice none 0 0)).far (p := ⟨b', 0, none⟩) hne (.int .i64 k)
    simpa using this
  have h2 : Blk (((w.setCell ⟨b, 0, none⟩ (.int .i64 0)).setCell ⟨b, 1, none⟩ (.slice none 0 0)).setCell ⟨b', 0, none⟩ (.int .i64 k)) b' 28 #[.int .i64 k] := by
    have := ((HB'.out.far (p := ⟨b, 0, none⟩) hne' (.int .i64 0)).far (p := ⟨b, 1, none⟩) hne' (.slice none 0 0)).set 0 (.int .i64 k)
    simpa using this
  have h3 : ∀ n, n ≤ b → n ≤ b' → Below n w (((w.setCell ⟨b, 0, none⟩ (.int .i64 0)).setCell ⟨b, 1, none⟩ (.slice none 0 0)).setCell ⟨b', 0, none⟩ (.int .i64 k)) := fun n h h' => (((Below.refl n w).setCell (p := ⟨b, 0, none⟩) h _).setCell (p := ⟨b, 1, none⟩) h _).setCell (p := ⟨b', 0, none⟩) h' _
  generalize ((w.setCell ⟨b, 0, none⟩ (.int .i64 0)).setCell ⟨b, 1, none⟩ (.slice none 0 0)).setCell ⟨b', 0, none⟩ (.int .i64 k) = wz at *
  cases c₀
  simp only [bodyPostS]
  exact ⟨trivial, _, rfl, _, results_none rfl _ _ _, rfl, rfl, h1, h2, h3⟩
end Go.Proofs.YtpadlillbofpnaaDoor
