/- entry.Read: its parts. -/
import Derived.Test.YtpadlillbofpnaaDoorEntB
import Derived.Defers
import Derived.Recover
import Derived.Laws.Pointers
import Derived.WalkLawsBesides
namespace Go.Proofs.YtpadlillbofpnaaDoor
set_option linter.unusedVariables false
set_option linter.unusedSimpArgs false
open Go.RowKit
set_option maxRecDepth 100000

set_option maxHeartbeats 400000 in
theorem take_ok (g : Nat) (k : Int) (w : World) (l : List UInt8) (p v B : Nat) (A : Option Addr) (c : Nat) (hb : Blk w g 113 #[.slice A l.length c, .int .i64 p, .bool true]) (hr : Rd w B A (l.map b8)) (hlc : l.length ≤ c) (hcm : c ≤ 9223372036854775807) (hp : p ≤ l.length) (hw : WidthsAt w) (hk0 : 0 ≤ k) (hpk : p + k ≤ l.length)
    (hv : rdF l p k = (v, 0)) :
    Calls Tryd.prog 65 #[.pointer (some ⟨g, 0, none⟩), .int .i64 k] w fun e w' => e = .returned (.tuple #[.int .u32 v, .int .i64 0]) ∧ ∃ n, w' = (w.drewN n).setCell ⟨g, 1, none⟩ (.int .i64 (p + k)) := by
  have h0 := hb.cell 0
  have h1 := hb.cell 1
  have h2 := hb.cell 2
  have hf := hb.frozen 1
  simp at h0 h1 h2
  have hrd := fun W hW hR => read_any l l.length rfl A c B W hW hR hlc (by omega) p k
  rw [hv] at hrd
  have HD := Lib.hid hrd
  clear hrd hb hv
  go_enter Tryd.func65, Tryd.ntmps65
  go_wp2_with fail
  refine scope_fwd 0 rfl ?_
  go_wp2_with (go_at_call 69; refine (none_some _ _ h2).mono ?_; rintro e w' ⟨rfl, rfl⟩)
  go_quiet ((go_at_call 44; exact q_same (HD.out _ (hw.drewN _) (hr.drewN _))))
  go_wp2
  rw [jump_ret]
  go_ret2
  exact ⟨rfl, _, rfl⟩

set_option maxHeartbeats 400000 in
theorem take_bad (g : Nat) (k : Int) (w : World) (l : List UInt8) (p B : Nat) (A : Option Addr) (c : Nat) (hb : Blk w g 113 #[.slice A l.length c, .int .i64 p, .bool true]) (hr : Rd w B A (l.map b8)) (hlc : l.length ≤ c) (hcm : c ≤ 9223372036854775807) (hp : p ≤ l.length) (hw : WidthsAt w)
    (hv : rdF l p k = (0, 130)) :
    Calls Tryd.prog 65 #[.pointer (some ⟨g, 0, none⟩), .int .i64 k] w fun e w' => e = .returned (.tuple #[.int .u32 0, .int .i64 130]) ∧ ∃ n, w' = w.drewN n := by
  have h0 := hb.cell 0
  have h1 := hb.cell 1
  have h2 := hb.cell 2
  simp at h0 h1 h2
  have hrd := fun W hW hR => read_any l l.length rfl A c B W hW hR hlc (by omega) p k
  rw [hv] at hrd
  have HD := Lib.hid hrd
  clear hrd hb hv
  go_enter Tryd.func65, Tryd.ntmps65
  go_wp2_with fail
  refine scope_fwd 0 rfl ?_
  go_wp2_with (go_at_call 69; refine (none_some _ _ h2).mono ?_; rintro e w' ⟨rfl, rfl⟩)
  go_quiet ((go_at_call 44; exact q_same (HD.out _ (hw.drewN _) (hr.drewN _))))
  go_wp2
  go_step3
  refine ⟨rfl, ?_⟩
  go_wp2
  rw [Exit.noGoto_ret]
  go_ret2
  exact ⟨rfl, _, rfl⟩

/-- what entry.Read works on: the named results, the reader, its bytes -/
def RS (w0 : World) (g Bq : Nat) (A : Option Addr) (c : Nat) (l : List UInt8) (p : Nat) (out : Array Value) (w : World) : Prop :=
  (Blk w g 113 #[.slice A l.length c, .int .i64 p, .bool true] ∧ Rd w g A (l.map b8) ∧ (∀ a, A = some a → w0.heap.size + 1 < a.block)) ∧
  (Blk w w0.heap.size 55 out ∧ Blk w (w0.heap.size + 1) 28 #[.int .i64 0] ∧ Blk w Bq 104 #[.pointer (some ⟨g, 0, none⟩)]) ∧
  Below w0.heap.size w0 w ∧ w0.heap.size + 1 < g ∧ g < Bq
section
variable {w0 w : World} {g Bq c p : Nat} {A : Option Addr} {l : List UInt8} {out : Array Value}
theorem RS.bel (h : RS w0 g Bq A c l p out w) : Below w0.heap.size w0 w := h.2.2.1
theorem RS.outB (h : RS w0 g Bq A c l p out w) : Blk w w0.heap.size 55 out := h.2.1.1
theorem RS.errB (h : RS w0 g Bq A c l p out w) : Blk w (w0.heap.size + 1) 28 #[.int .i64 0] := h.2.1.2.1
end
theorem RS.drewN {w0 w : World} {g Bq c p : Nat} {A : Option Addr} {l : List UInt8} {out : Array Value} (h : RS w0 g Bq A c l p out w) (n : Nat) : RS w0 g Bq A c l p out (w.drewN n) := by
  obtain ⟨⟨h1, h2, h3⟩, ⟨h4, h5, h6⟩, h7, h8, h9⟩ := h
  exact ⟨⟨h1.drewN n, h2.drewN n, h3⟩, ⟨h4.drewN n, h5.drewN n, h6.drewN n⟩, below_drewN h7 n, h8, h9⟩
theorem RS.took {w0 w : World} {g Bq c p : Nat} {A : Option Addr} {l : List UInt8} {out : Array Value} (h : RS w0 g Bq A c l p out w) (q : Nat) : RS w0 g Bq A c l q out (w.setCell ⟨g, 1, none⟩ (.int .i64 q)) := by
  obtain ⟨⟨h1, h2, h3⟩, ⟨h4, h5, h6⟩, h7, h8, h9⟩ := h
  refine ⟨⟨by simpa using h1.set 1 (.int .i64 q), h2.far (p := ⟨g, 1, none⟩) (Nat.le_refl _) _, h3⟩, ⟨h4.far (p := ⟨g, 1, none⟩) (by show w0.heap.size ≠ g; omega) _, h5.far (p := ⟨g, 1, none⟩) (by show w0.heap.size + 1 ≠ g; omega) _, h6.far (p := ⟨g, 1, none⟩) (by show Bq ≠ g; omega) _⟩, h7.setCell (p := ⟨g, 1, none⟩) (by show w0.heap.size ≤ g; omega) _, h8, h9⟩
theorem RS.put {w0 w : World} {g Bq c p : Nat} {A : Option Addr} {l : List UInt8} {out : Array Value} (h : RS w0 g Bq A c l p out w) (i : Nat) (u : Value) : RS w0 g Bq A c l p (out.setIfInBounds i u) (w.setCell ⟨w0.heap.size, i, none⟩ u) := by
  obtain ⟨⟨h1, h2, h3⟩, ⟨h4, h5, h6⟩, h7, h8, h9⟩ := h
  refine ⟨⟨h1.far (p := ⟨w0.heap.size, i, none⟩) (by show g ≠ w0.heap.size; omega) _, ?_, h3⟩, ⟨h4.set i u, h5.far (p := ⟨w0.heap.size, i, none⟩) (by show w0.heap.size + 1 ≠ w0.heap.size; omega) _, h6.far (p := ⟨w0.heap.size, i, none⟩) (by show Bq ≠ w0.heap.size; omega) _⟩, h7.setCell (p := ⟨w0.heap.size, i, none⟩) (Nat.le_refl _) _, h8, h9⟩
  intro h0
  obtain ⟨b, off, rfl, hb, hc⟩ := h2 h0
  have := h3 _ rfl
  exact ⟨b, off, rfl, hb, fun j u' hu => (World.cell?_setCell_other w _ _ _ (fun e => by have e' := congrArg Addr.block e; simp at e' this; omega)).trans (hc j u' hu)⟩

set_option maxHeartbeats 400000 in
theorem next_ok (w0 w : World) (hw : WidthsAt w) (g Bq c p v : Nat) (A : Option Addr) (l : List UInt8) (out : Array Value) (k : Int) (h : RS w0 g Bq A c l p out w) (hlc : l.length ≤ c) (hcm : c ≤ 9223372036854775807) (hp : p ≤ l.length) (hk0 : 0 ≤ k) (hpk : p + k ≤ l.length) (hv : rdF l p k = (v, 0)) :
    Calls Tryd.prog 64 #[.int .i64 k, .pointer (some ⟨Bq, 0, none⟩)] w fun e w' => e = .returned (.int .u32 v) ∧ RS w0 g Bq A c l (p + k.toNat) out w' := by
  have hc := h.2.1.2.2.cell 0
  simp at hc
  have CT := Lib.hid (take_ok g k w l p v g A c h.1.1 h.1.2.1 hlc hcm hp hw hk0 hpk hv)
  have HS := Lib.hid h
  have HK := Lib.hid (show ((p + k.toNat : Nat) : Int) = p + k by omega)
  clear h hv
  go_enter Tryd.func64, Tryd.ntmps64
  go_wp2_with fail
  refine CT.out.mono ?_
  rintro e w' ⟨rfl, n, rfl⟩
  go_wp2_with fail
  go_ret
  refine ⟨rfl, ?_⟩
  rw [← HK.out]
  exact (HS.out.drewN n).took _

set_option maxHeartbeats 400000 in
theorem next_bad (w0 w : World) (hw : WidthsAt w) (g Bq c p : Nat) (A : Option Addr) (l : List UInt8) (out : Array Value) (k : Int) (h : RS w0 g Bq A c l p out w) (hlc : l.length ≤ c) (hcm : c ≤ 9223372036854775807) (hp : p ≤ l.length) (hv : rdF l p k = (0, 130)) :
    Calls Tryd.prog 64 #[.int .i64 k, .pointer (some ⟨Bq, 0, none⟩)] w fun e w' => e = .panicked [{ v := .iface 99 (.int .i64 130), recovered := false }] ∧ RS w0 g Bq A c l p out w' := by
  have hc := h.2.1.2.2.cell 0
  simp at hc
  have CT := Lib.hid (take_bad g k w l p g A c h.1.1 h.1.2.1 hlc hcm hp hw hv)
  have HS := Lib.hid h
  clear h hv
  go_enter Tryd.func64, Tryd.ntmps64
  go_wp2_with fail
  refine CT.out.mono ?_
  rintro e w' ⟨rfl, n, rfl⟩
  go_wp2_with fail
  exact ⟨rfl, rfl, HS.out.drewN n⟩

set_option maxHeartbeats 1000000 in
theorem catch_idle (b b' : Nat) (w : World) :
    CallsD Tryd.prog 62 #[.pointer (some ⟨b, 0, none⟩), .pointer (some ⟨b', 0, none⟩)] .returning w fun e u' w' => e = .returned (.tuple #[]) ∧ u' = .returning ∧ w' = w := by
  have hta : ∀ w, (Instr.typeAssert .nilIface 20 99 true).run Tryd.prog w = .ok (.tuple #[.int .i64 0, .bool false]) w := fun _ => by kernel_rfl
  refine callsD_of_wpS Tryd.func62 rfl fun c₀ cs hu => ?_
  simp only [Tryd.ntmps62, List.size_toArray, List.length_cons, List.length_nil, Nat.reduceAdd, Nat.reduceSub, Array.replicate_succ, Array.replicate_zero, List.push_toArray, List.append_toArray, List.nil_append, List.cons_append]
  apply wpS_seq
  apply wpS_region
  simp [wpOpsS, go_sem, recoverD, hu, Exit.thenS, hta]
  refine wpS_of_wp ?_
  go_wp2
  cases c₀
  simp_all [bodyPostS, results, Tryd.results62]

set_option maxHeartbeats 1000000 in
theorem catch_pan (b b' : Nat) (o0 o1 o2 o3 o4 o5 : Value) (older : List PanicEntry) (w : World) (hb : Blk w b 55 #[o0, o1, o2, o3, o4, o5]) (hb' : Blk w b' 28 #[.int .i64 0]) (hne : ¬ b = b') :
    CallsD Tryd.prog 62 #[.pointer (some ⟨b, 0, none⟩), .pointer (some ⟨b', 0, none⟩)] (.panicking ({ v := .iface 99 (.int .i64 130), recovered := false } :: older)) w fun e u' w' => e = .returned (.tuple #[]) ∧ u' = .panicking ({ v := .iface 99 (.int .i64 130), recovered := true } :: older) ∧
      (Blk w' b 55 #[.int .i64 0, .int .i64 0, .int .u32 0, .int .u32 0, .int .u32 0, .int .u32 0] ∧ Blk w' b' 28 #[.int .i64 130] ∧ ∀ n, n ≤ b → n ≤ b' → Below n w w') := by
  have hta : ∀ w, (Instr.typeAssert (.iface 99 (.int .i64 130)) 20 99 true).run Tryd.prog w = .ok (.tuple #[.int .i64 130, .bool true]) w := fun _ => by kernel_rfl
  have d0 := (hb).cell 0
  have d1 := (hb).cell 1
  have d2 := (hb).cell 2
  have d3 := (hb).cell 3
  have d4 := (hb).cell 4
  have d5 := (hb).cell 5
  simp only [List.getElem?_toArray, List.getElem?_cons_zero, List.getElem?_cons_succ] at d0 d1 d2 d3 d4 d5
  have g0 := (hb').cell 0
  simp only [List.getElem?_toArray, List.getElem?_cons_zero, List.getElem?_cons_succ] at g0
  have f0 := hb.frozen 0
  have f1 := hb.frozen 1
  have f2 := hb.frozen 2
  have f3 := hb.frozen 3
  have f4 := hb.frozen 4
  have f5 := hb.frozen 5
  have f6 := hb'.frozen 0
  have hne' : ¬ b' = b := fun e => hne e.symm
  have HB := Lib.hid hb
  have HB' := Lib.hid hb'
  clear hb hb'
  refine callsD_of_wpS Tryd.func62 rfl fun c₀ cs hu => ?_
  simp only [Tryd.ntmps62, List.size_toArray, List.length_cons, List.length_nil, Nat.reduceAdd, Nat.reduceSub, Array.replicate_succ, Array.replicate_zero, List.push_toArray, List.append_toArray, List.nil_append, List.cons_append]
  apply wpS_seq
  apply wpS_region
  simp [wpOpsS, go_sem, recoverD, hu, Exit.thenS, hta]
  refine wpS_of_wp ?_
  go_wp2
  have h1 : Blk (((((((w.setCell ⟨b, 0, none⟩ (.int .i64 0)).setCell ⟨b, 1, none⟩ (.int .i64 0)).setCell ⟨b, 2, none⟩ (.int .u32 0)).setCell ⟨b, 3, none⟩ (.int .u32 0)).setCell ⟨b, 4, none⟩ (.int .u32 0)).setCell ⟨b, 5, none⟩ (.int .u32 0)).setCell ⟨b', 0, none⟩ (.int .i64 130)) b 55 #[.int .i64 0, .int .i64 0, .int .u32 0, .int .u32 0, .int .u32 0, .int .u32 0] := by
    have := ((((((HB.out.set 0 (.int .i64 0)).set 1 (.int .i64 0)).set 2 (.int .u32 0)).set 3 (.int .u32 0)).set 4 (.int .u32 0)).set 5 (.int .u32 0)).far (p := ⟨b', 0, none⟩) hne (.int .i64 130)
    simpa using this
  have h2 : Blk (((((((w.setCell ⟨b, 0, none⟩ (.int .i64 0)).setCell ⟨b, 1, none⟩ (.int .i64 0)).setCell ⟨b, 2, none⟩ (.int .u32 0)).setCell ⟨b, 3, none⟩ (.int .u32 0)).setCell ⟨b, 4, none⟩ (.int .u32 0)).setCell ⟨b, 5, none⟩ (.int .u32 0)).setCell ⟨b', 0, none⟩ (.int .i64 130)) b' 28 #[.int .i64 130] := by
    have := ((((((HB'.out.far (p := ⟨b, 0, none⟩) hne' (.int .i64 0)).far (p := ⟨b, 1, none⟩) hne' (.int .i64 0)).far (p := ⟨b, 2, none⟩) hne' (.int .u32 0)).far (p := ⟨b, 3, none⟩) hne' (.int .u32 0)).far (p := ⟨b, 4, none⟩) hne' (.int .u32 0)).far (p := ⟨b, 5, none⟩) hne' (.int .u32 0)).set 0 (.int .i64 130)
    simpa using this
  have h3 : ∀ n, n ≤ b → n ≤ b' → Below n w (((((((w.setCell ⟨b, 0, none⟩ (.int .i64 0)).setCell ⟨b, 1, none⟩ (.int .i64 0)).setCell ⟨b, 2, none⟩ (.int .u32 0)).setCell ⟨b, 3, none⟩ (.int .u32 0)).setCell ⟨b, 4, none⟩ (.int .u32 0)).setCell ⟨b, 5, none⟩ (.int .u32 0)).setCell ⟨b', 0, none⟩ (.int .i64 130)) := fun n h h' => (((((((Below.refl n w).setCell (p := ⟨b, 0, none⟩) h _).setCell (p := ⟨b, 1, none⟩) h _).setCell (p := ⟨b, 2, none⟩) h _).setCell (p := ⟨b, 3, none⟩) h _).setCell (p := ⟨b, 4, none⟩) h _).setCell (p := ⟨b, 5, none⟩) h _).setCell (p := ⟨b', 0, none⟩) h' _
  generalize (((((((w.setCell ⟨b, 0, none⟩ (.int .i64 0)).setCell ⟨b, 1, none⟩ (.int .i64 0)).setCell ⟨b, 2, none⟩ (.int .u32 0)).setCell ⟨b, 3, none⟩ (.int .u32 0)).setCell ⟨b, 4, none⟩ (.int .u32 0)).setCell ⟨b, 5, none⟩ (.int .u32 0)).setCell ⟨b', 0, none⟩ (.int .i64 130)) = wz at *
  cases c₀
  simp only [bodyPostS]
  exact ⟨trivial, _, rfl, _, results_none rfl _ _ _, rfl, rfl, h1, h2, h3⟩
end Go.Proofs.YtpadlillbofpnaaDoor
