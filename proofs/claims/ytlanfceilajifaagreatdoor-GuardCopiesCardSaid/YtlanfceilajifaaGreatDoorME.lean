/- ME: ERd, ERd2, EEach, ERef, EHolds, EBy, EBy2, EBy3: several texts in one. -/
import Derived.Test.YtlanfceilajifaaGreatDoorMB
import Derived.Defers
import Derived.Recover
import Derived.Laws.Pointers
import Derived.WalkLawsBesides
import Derived.Test.YtlanfceilajifaaGreatDoorMD
import Derived.Maps.AppendAt
import Derived.Test.YtlanfceilajifaaGreatDoorWorks4
import Derived.Deep.DeepCutAuto
import Derived.Deep.AppendLies
/- entry.Read: its parts. -/
namespace Go.Proofs.YtlanfceilajifaaGreatDoor
set_option linter.unusedVariables false
set_option linter.unusedSimpArgs false
open Go.RowKit
set_option maxRecDepth 100000

set_option maxHeartbeats 400000 in
theorem take_ok (g : Nat) (k : Int) (w : World) (l : List UInt8) (p v B : Nat) (A : Option Addr) (c : Nat) (hb : Blk w g 238 #[.slice A l.length c, .int .i64 p, .bool true]) (hr : Rd w B A (l.map b8)) (hlc : l.length ≤ c) (hcm : c ≤ 9223372036854775807) (hp : p ≤ l.length) (hw : WidthsAt w) (hk0 : 0 ≤ k) (hpk : p + k ≤ l.length)
    (hv : rdF l p k = (v, 0)) :
    Calls Tryz.prog 142 #[.pointer (some ⟨g, 0, none⟩), .int .i64 k] w fun e w' => e = .returned (.tuple #[.int .u32 v, .int .i64 0]) ∧ ∃ n, w' = (w.drewN n).setCell ⟨g, 1, none⟩ (.int .i64 (p + k)) := by
  have h0 := hb.cell 0
  have h1 := hb.cell 1
  have h2 := hb.cell 2
  have hf := hb.frozen 1
  simp at h0 h1 h2
  have hrd := fun W hW hR => read_any l l.length rfl A c B W hW hR hlc (by omega) p k
  rw [hv] at hrd
  have HD := Lib.hid hrd
  clear hrd hb hv
  go_enter Tryz.func142, Tryz.ntmps142
  go_wp2_with fail
  refine scope_fwd 0 rfl ?_
  go_wp2_with (go_at_call 152; refine (none_some _ _ h2).mono ?_; rintro e w' ⟨rfl, rfl⟩)
  go_quiet ((go_at_call 111; exact q_same (HD.out _ (hw.drewN _) (hr.drewN _))))
  go_wp2
  rw [jump_ret]
  go_ret2
  exact ⟨rfl, _, rfl⟩

set_option maxHeartbeats 400000 in
theorem take_bad (g : Nat) (k : Int) (w : World) (l : List UInt8) (p B : Nat) (A : Option Addr) (c : Nat) (hb : Blk w g 238 #[.slice A l.length c, .int .i64 p, .bool true]) (hr : Rd w B A (l.map b8)) (hlc : l.length ≤ c) (hcm : c ≤ 9223372036854775807) (hp : p ≤ l.length) (hw : WidthsAt w)
    (hv : rdF l p k = (0, 130)) :
    Calls Tryz.prog 142 #[.pointer (some ⟨g, 0, none⟩), .int .i64 k] w fun e w' => e = .returned (.tuple #[.int .u32 0, .int .i64 130]) ∧ ∃ n, w' = w.drewN n := by
  have h0 := hb.cell 0
  have h1 := hb.cell 1
  have h2 := hb.cell 2
  simp at h0 h1 h2
  have hrd := fun W hW hR => read_any l l.length rfl A c B W hW hR hlc (by omega) p k
  rw [hv] at hrd
  have HD := Lib.hid hrd
  clear hrd hb hv
  go_enter Tryz.func142, Tryz.ntmps142
  go_wp2_with fail
  refine scope_fwd 0 rfl ?_
  go_wp2_with (go_at_call 152; refine (none_some _ _ h2).mono ?_; rintro e w' ⟨rfl, rfl⟩)
  go_quiet ((go_at_call 111; exact q_same (HD.out _ (hw.drewN _) (hr.drewN _))))
  go_wp2
  go_step3
  refine ⟨rfl, ?_⟩
  go_wp2
  rw [Exit.noGoto_ret]
  go_ret2
  exact ⟨rfl, _, rfl⟩

/-- what entry.Read works on: the named results, the reader, its bytes -/
def RS (w0 : World) (g Bq : Nat) (A : Option Addr) (c : Nat) (l : List UInt8) (p : Nat) (out : Array Value) (w : World) : Prop :=
  (Blk w g 238 #[.slice A l.length c, .int .i64 p, .bool true] ∧ Rd w g A (l.map b8) ∧ (∀ a, A = some a → w0.heap.size + 1 < a.block)) ∧
  (Blk w w0.heap.size 57 out ∧ Blk w (w0.heap.size + 1) 29 #[.int .i64 0] ∧ Blk w Bq 229 #[.pointer (some ⟨g, 0, none⟩)]) ∧
  Below w0.heap.size w0 w ∧ w0.heap.size + 1 < g ∧ g < Bq
section
variable {w0 w : World} {g Bq c p : Nat} {A : Option Addr} {l : List UInt8} {out : Array Value}
theorem RS.bel (h : RS w0 g Bq A c l p out w) : Below w0.heap.size w0 w := h.2.2.1
theorem RS.outB (h : RS w0 g Bq A c l p out w) : Blk w w0.heap.size 57 out := h.2.1.1
theorem RS.errB (h : RS w0 g Bq A c l p out w) : Blk w (w0.heap.size + 1) 29 #[.int .i64 0] := h.2.1.2.1
end
theorem RS.drewN {w0 w : World} {g Bq c p : Nat} {A : Option Addr} {l : List UInt8} {out : Array Value} (h : RS w0 g Bq A c l p out w) (n : Nat) : RS w0 g Bq A c l p out (w.drewN n) := by
  obtain ⟨⟨h1, h2, h3⟩, ⟨h4, h5, h6⟩, h7, h8, h9⟩ := h
  exact ⟨⟨h1.drewN n, h2.drewN n, h3⟩, ⟨h4.drewN n, h5.drewN n, h6.drewN n⟩, below_drewN h7 n, h8, h9⟩
theorem RS.took {w0 w : World} {g Bq c p : Nat} {A : Option Addr} {l : List UInt8} {out : Array Value} (h : RS w0 g Bq A c l p out w) (q : Nat) : RS w0 g Bq A c l q out (w.setCell ⟨g, 1, none⟩ (.int .i64 q)) := by
  obtain ⟨⟨h1, h2, h3⟩, ⟨h4, h5, h6⟩, h7, h8, h9⟩ := h
  refine ⟨⟨by simpa using h1.set 1 (.int .i64 q), h2.far (p := ⟨g, 1, none⟩) (Nat.le_refl _) _, h3⟩, ⟨h4.far (p := ⟨g, 1, none⟩) (by show w0.heap.size ≠ g; omega) _, h5.far (p := ⟨g, 1, none⟩) (by show w0.heap.size + 1 ≠ g; omega) _, h6.far (p := ⟨g, 1, none⟩) (by show Bq ≠ g; omega) _⟩, h7.setCell (p := ⟨g, 1, none⟩) (by show w0.heap.size ≤ g; omega) _, h8, h9⟩
theorem RS.put {w0 w : World} {g Bq c p : Nat} {A : Option Addr} {l : List UInt8} {out : Array Value} (h : RS w0 g Bq A c l p out w) (i : Nat) (u : Value) : RS w0 g Bq A c l p (out.setIfInBounds i u) (w.setCell ⟨w0.heap.size, i, none⟩ u) := by
  obtain ⟨⟨h1, h2, h3⟩, ⟨h4, h5, h6⟩, h7, h8, h9⟩ := h
  refine ⟨⟨h1.far (p := ⟨w0.heap.size, i, none⟩) (by show g ≠ w0.heap.size; omega) _, ?_, h3⟩, ⟨h4.set i u, h5.far (p := ⟨w0.heap.size, i, none⟩) (by show w0.heap.size + 1 ≠ w0.heap.size; omega) _, h6.far (p := ⟨w0.heap.size, i, none⟩) (by show Bq ≠ w0.heap.size; omega) _⟩, h7.setCell (p := ⟨w0.heap.size, i, none⟩) (Nat.le_refl _) _, h8, h9⟩
  intro h0
  obtain ⟨b, off, rfl, hb, hc⟩ := h2 h0
  have := h3 _ rfl
  exact ⟨b, off, rfl, hb, fun j u' hu => (World.cell?_setCell_other w _ _ _ (fun e => by have e' := congrArg Addr.block e; simp at e' this; omega)).trans (hc j u' hu)⟩

set_option maxHeartbeats 400000 in
theorem next_ok (w0 w : World) (hw : WidthsAt w) (g Bq c p v : Nat) (A : Option Addr) (l : List UInt8) (out : Array Value) (k : Int) (h : RS w0 g Bq A c l p out w) (hlc : l.length ≤ c) (hcm : c ≤ 9223372036854775807) (hp : p ≤ l.length) (hk0 : 0 ≤ k) (hpk : p + k ≤ l.length) (hv : rdF l p k = (v, 0)) :
    Calls Tryz.prog 141 #[.int .i64 k, .pointer (some ⟨Bq, 0, none⟩)] w fun e w' => e = .returned (.int .u32 v) ∧ RS w0 g Bq A c l (p + k.toNat) out w' := by
  have hc := h.2.1.2.2.cell 0
  simp at hc
  have CT := Lib.hid (take_ok g k w l p v g A c h.1.1 h.1.2.1 hlc hcm hp hw hk0 hpk hv)
  have HS := Lib.hid h
  have HK := Lib.hid (show ((p + k.toNat : Nat) : Int) = p + k by omega)
  clear h hv
  go_enter Tryz.func141, Tryz.ntmps141
  go_wp2_with fail
  refine CT.out.mono ?_
  rintro e w' ⟨rfl, n, rfl⟩
  go_wp2_with fail
  go_ret
  refine ⟨rfl, ?_⟩
  rw [← HK.out]
  exact (HS.out.drewN n).took _

set_option maxHeartbeats 400000 in
theorem next_bad (w0 w : World) (hw : WidthsAt w) (g Bq c p : Nat) (A : Option Addr) (l : List UInt8) (out : Array Value) (k : Int) (h : RS w0 g Bq A c l p out w) (hlc : l.length ≤ c) (hcm : c ≤ 9223372036854775807) (hp : p ≤ l.length) (hv : rdF l p k = (0, 130)) :
    Calls Tryz.prog 141 #[.int .i64 k, .pointer (some ⟨Bq, 0, none⟩)] w fun e w' => e = .panicked [{ v := .iface 224 (.int .i64 130), recovered := false }] ∧ RS w0 g Bq A c l p out w' := by
  have hc := h.2.1.2.2.cell 0
  simp at hc
  have CT := Lib.hid (take_bad g k w l p g A c h.1.1 h.1.2.1 hlc hcm hp hw hv)
  have HS := Lib.hid h
  clear h hv
  go_enter Tryz.func141, Tryz.ntmps141
  go_wp2_with fail
  refine CT.out.mono ?_
  rintro e w' ⟨rfl, n, rfl⟩
  go_wp2_with fail
  exact ⟨rfl, rfl, HS.out.drewN n⟩

set_option maxHeartbeats 1000000 in
theorem catch_idle (b b' : Nat) (w : World) :
    CallsD Tryz.prog 139 #[.pointer (some ⟨b, 0, none⟩), .pointer (some ⟨b', 0, none⟩)] .returning w fun e u' w' => e = .returned (.tuple #[]) ∧ u' = .returning ∧ w' = w := by
  have hta : ∀ w, (Instr.typeAssert .nilIface 20 224 true).run Tryz.prog w = .ok (.tuple #[.int .i64 0, .bool false]) w := fun _ => by kernel_rfl
  refine callsD_of_wpS Tryz.func139 rfl fun c₀ cs hu => ?_
  simp only [Tryz.ntmps139, List.size_toArray, List.length_cons, List.length_nil, Nat.reduceAdd, Nat.reduceSub, Array.replicate_succ, Array.replicate_zero, List.push_toArray, List.append_toArray, List.nil_append, List.cons_append]
  apply wpS_seq
  apply wpS_region
  simp [wpOpsS, go_sem, recoverD, hu, Exit.thenS, hta]
  refine wpS_of_wp ?_
  go_wp2
  cases c₀
  simp_all [bodyPostS, results, Tryz.results139]

set_option maxHeartbeats 1000000 in
theorem catch_pan (b b' : Nat) (o0 o1 o2 o3 o4 o5 : Value) (older : List PanicEntry) (w : World) (hb : Blk w b 57 #[o0, o1, o2, o3, o4, o5]) (hb' : Blk w b' 29 #[.int .i64 0]) (hne : ¬ b = b') :
    CallsD Tryz.prog 139 #[.pointer (some ⟨b, 0, none⟩), .pointer (some ⟨b', 0, none⟩)] (.panicking ({ v := .iface 224 (.int .i64 130), recovered := false } :: older)) w fun e u' w' => e = .returned (.tuple #[]) ∧ u' = .panicking ({ v := .iface 224 (.int .i64 130), recovered := true } :: older) ∧
      (Blk w' b 57 #[.int .i64 0, .int .i64 0, .int .u32 0, .int .u32 0, .int .u32 0, .int .u32 0] ∧ Blk w' b' 29 #[.int .i64 130] ∧ ∀ n, n ≤ b → n ≤ b' → Below n w w') := by
  have hta : ∀ w, (Instr.typeAssert (.iface 224 (.int .i64 130)) 20 224 true).run Tryz.prog w = .ok (.tuple #[.int .i64 130, .bool true]) w := fun _ => by kernel_rfl
  have d0 := (hb).cell 0
  have d1 := (hb).cell 1
  have d2 := (hb).cell 2
  have d3 := (hb).cell 3
  have d4 := (hb).cell 4
  have d5 := (hb).cell 5
  simp only [List.getElem?_toArray, List.getElem?_cons_zero, List.getElem?_cons_succ] at d0 d1 d2 d3 d4 d5
  have g0 := (hb').cell 0
  simp only [List.getElem?_toArray, List.getElem?_cons_zero, List.getElem?_cons_succ] at g0
  have f0 := hb.frozen 0
  have f1 := hb.frozen 1
  have f2 := hb.frozen 2
  have f3 := hb.frozen 3
  have f4 := hb.frozen 4
  have f5 := hb.frozen 5
  have f6 := hb'.frozen 0
  have hne' : ¬ b' = b := fun e => hne e.symm
  have HB := Lib.hid hb
  have HB' := Lib.hid hb'
  clear hb hb'
  refine callsD_of_wpS Tryz.func139 rfl fun c₀ cs hu => ?_
  simp only [Tryz.ntmps139, List.size_toArray, List.length_cons, List.length_nil, Nat.reduceAdd, Nat.reduceSub, Array.replicate_succ, Array.replicate_zero, List.push_toArray, List.append_toArray, List.nil_append, List.cons_append]
  apply wpS_seq
  apply wpS_region
  simp [wpOpsS, go_sem, recoverD, hu, Exit.thenS, hta]
  refine wpS_of_wp ?_
  go_wp2
  have h1 : Blk (((((((w.setCell ⟨b, 0, none⟩ (.int .i64 0)).setCell ⟨b, 1, none⟩ (.int .i64 0)).setCell ⟨b, 2, none⟩ (.int .u32 0)).setCell ⟨b, 3, none⟩ (.int .u32 0)).setCell ⟨b, 4, none⟩ (.int .u32 0)).setCell ⟨b, 5, none⟩ (.int .u32 0)).setCell ⟨b', 0, none⟩ (.int .i64 130)) b 57 #[.int .i64 0, .int .i64 0, .int .u32 0, .int .u32 0, .int .u32 0, .int .u32 0] := by
    have := ((((((HB.out.set 0 (.int .i64 0)).set 1 (.int .i64 0)).set 2 (.int .u32 0)).set 3 (.int .u32 0)).set 4 (.int .u32 0)).set 5 (.int .u32 0)).far (p := ⟨b', 0, none⟩) hne (.int .i64 130)
    simpa using this
  have h2 : Blk (((((((w.setCell ⟨b, 0, none⟩ (.int .i64 0)).setCell ⟨b, 1, none⟩ (.int .i64 0)).setCell ⟨b, 2, none⟩ (.int .u32 0)).setCell ⟨b, 3, none⟩ (.int .u32 0)).setCell ⟨b, 4, none⟩ (.int .u32 0)).setCell ⟨b, 5, none⟩ (.int .u32 0)).setCell ⟨b', 0, none⟩ (.int .i64 130)) b' 29 #[.int .i64 130] := by
    have := ((((((HB'.out.far (p := ⟨b, 0, none⟩) hne' (.int .i64 0)).far (p := ⟨b, 1, none⟩) hne' (.int .i64 0)).far (p := ⟨b, 2, none⟩) hne' (.int .u32 0)).far (p := ⟨b, 3, none⟩) hne' (.int .u32 0)).far (p := ⟨b, 4, none⟩) hne' (.int .u32 0)).far (p := ⟨b, 5, none⟩) hne' (.int .u32 0)).set 0 (.int .i64 130)
    simpa using this
  have h3 : ∀ n, n ≤ b → n ≤ b' → Below n w (((((((w.setCell ⟨b, 0, none⟩ (.int .i64 0)).setCell ⟨b, 1, none⟩ (.int .i64 0)).setCell ⟨b, 2, none⟩ (.int .u32 0)).setCell ⟨b, 3, none⟩ (.int .u32 0)).setCell ⟨b, 4, none⟩ (.int .u32 0)).setCell ⟨b, 5, none⟩ (.int .u32 0)).setCell ⟨b', 0, none⟩ (.int .i64 130)) := fun n h h' => (((((((Below.refl n w).setCell (p := ⟨b, 0, none⟩) h _).setCell (p := ⟨b, 1, none⟩) h _).setCell (p := ⟨b, 2, none⟩) h _).setCell (p := ⟨b, 3, none⟩) h _).setCell (p := ⟨b, 4, none⟩) h _).setCell (p := ⟨b, 5, none⟩) h _).setCell (p := ⟨b', 0, none⟩) h' _
  generalize (((((((w.setCell ⟨b, 0, none⟩ (.int .i64 0)).setCell ⟨b, 1, none⟩ (.int .i64 0)).setCell ⟨b, 2, none⟩ (.int .u32 0)).setCell ⟨b, 3, none⟩ (.int .u32 0)).setCell ⟨b, 4, none⟩ (.int .u32 0)).setCell ⟨b, 5, none⟩ (.int .u32 0)).setCell ⟨b', 0, none⟩ (.int .i64 130)) = wz at *
  cases c₀
  simp only [bodyPostS]
  exact ⟨trivial, _, rfl, _, results_none rfl _ _ _, rfl, rfl, h1, h2, h3⟩
end Go.Proofs.YtlanfceilajifaaGreatDoor
/- entry.Read: the entry of any bytes. -/
namespace Go.Proofs.YtlanfceilajifaaGreatDoor
set_option linter.unusedVariables false
set_option linter.unusedSimpArgs false
open Go.RowKit
set_option maxRecDepth 100000

/-- a field: so many bytes from a place on -/
def fld (l : List UInt8) (p k : Nat) : Nat := be ((l.drop p).take k)
theorem fld_lt (l : List UInt8) (p k : Nat) : fld l p k < 256 ^ k := by
  unfold fld
  have h := be_lt ((l.drop p).take k)
  have h2 : 256 ^ ((l.drop p).take k).length ≤ 256 ^ k := Nat.pow_le_pow_right (by omega) (List.length_take_le _ _)
  omega
theorem fld_take (l : List UInt8) (n p k : Nat) (h : p + k ≤ n) : fld (l.take n) p k = fld l p k := by
  unfold fld
  rw [List.drop_take, List.take_take, Nat.min_eq_left (by omega)]
theorem rdF_fld (l : List UInt8) (p k : Nat) (hk : k = 2 ∨ k = 4) (h : p + k ≤ l.length) : rdF l p k = (fld l p k, 0) := by
  unfold rdF fld
  rw [if_neg (by rcases hk with rfl | rfl <;> simp [isW]), if_neg (by omega), if_neg (by omega), Int.toNat_natCast, Int.toNat_natCast]
theorem rdF_ends (l : List UInt8) (p k : Nat) (hk : k = 2 ∨ k = 4) (h : l.length < p + k) : rdF l p k = (0, 130) := by
  unfold rdF
  rw [if_neg (by rcases hk with rfl | rfl <;> simp [isW]), if_neg (by omega), if_pos (by omega)]
def readE (l : List UInt8) : Value := .agg #[.int .i64 (fld l 0 2), .int .i64 (fld l 2 2), .int .u32 (fld l 4 4), .int .u32 (fld l 8 4), .int .u32 (fld l 12 4), .int .u32 (fld l 16 4)]

set_option maxHeartbeats 400000 in
theorem new_rs (l : List UInt8) (n : Nat) (hn : l.length = n) (A : Option Addr) (c B : Nat) (w : World) (h : Rd w B A (l.map b8)) (hl : n ≤ 1048576) (hB : B ≤ w.heap.size) :
    Calls Tryz.prog 140 #[.slice A n c] w fun e w' => ∃ g A1 c1, e = .returned (.pointer (some ⟨g, 0, none⟩)) ∧ Blk w' g 238 #[.slice A1 l.length c1, .int .i64 ((0 : Nat) : Int), .bool true] ∧ Rd w' g A1 (l.map b8) ∧ l.length ≤ c1 ∧ c1 ≤ maxLen ∧ (∀ a, A1 = some a → w.heap.size ≤ a.block) ∧ w.heap.size ≤ g ∧ Below w.heap.size w w' := by
  have HN := Lib.hid hn
  clear hn
  go_enter Tryz.func140, Tryz.ntmps140
  go_wp2_with (go_at_call 112; refine (clone_any l _ HN.out _ _ _ _ h hl hB).mono ?_; rintro e w1 ⟨A1, c1, rfl, hc1, hm1, hr1, hb1, hx1⟩)
  go_ret
  exact ⟨_, A1, c1, rfl, Blk.new _ _ _, hr1.alloc (Nat.le_refl _) _, hc1, hm1, hx1, hb1.size, hb1.alloc hb1.size _⟩

set_option maxHeartbeats 500000 in
theorem eread_bad0 (l' : List UInt8) (n : Nat) (hlen : l'.length = n) (A : Option Addr) (c : Nat) (w : World) (hw : WidthsAt w) (hrd : Rd w w.heap.size A (l'.map b8)) (hlc : n ≤ c) (hcm : c ≤ 9223372036854775807) (hl1 : 0 ≤ n) (hl2 : n < 2) :
    Calls Tryz.prog 114 #[.slice A n c] w fun e w' => e = .returned (.tuple #[.agg #[.int .i64 0, .int .i64 0, .int .u32 0, .int .u32 0, .int .u32 0, .int .u32 0], .int .i64 130]) ∧ Below w.heap.size w w' := by
  have hl : n < 20 := by omega
  have R0 := Lib.hid (show rdF l' ((0 : Nat) : Int) (2 : Int) = (0, 130) from rdF_ends l' 0 2 (by omega) (by omega))
  have HW := Lib.hid hw
  have HL := Lib.hid hlen
  have B0 : Below w.heap.size w ((w.alloc (.cells #[.int .i64 0, .int .i64 0, .int .u32 0, .int .u32 0, .int .u32 0, .int .u32 0] 57)).alloc (.cells #[.int .i64 0] 29)) := balloc (balloc (Below.refl _ _) _) _
  have x0 := (Blk.new w 57 #[.int .i64 0, .int .i64 0, .int .u32 0, .int .u32 0, .int .u32 0, .int .u32 0]).alloc (.cells #[.int .i64 0] 29)
  have x1 := Blk.new (w.alloc (.cells #[.int .i64 0, .int .i64 0, .int .u32 0, .int .u32 0, .int .u32 0, .int .u32 0] 57)) 29 #[.int .i64 0]
  rw [World.size_alloc] at x1
  have X := Lib.hid (And.intro x0 x1)
  clear hw hlen x0 x1
  have hmf : ∀ (fn : Fn) (first cap : Array Value) (w : World), (Instr.makeFunc fn first cap).run Tryz.prog w = .ok (.func fn first cap) w := fun _ _ _ _ => rfl
  have hmn : min (n : Int) 20 = n := by omega
  go_enter_defers Tryz.func114, Tryz.ntmps114
  go_wp2_with fail
  with_reducible refine (new_rs l' _ HL.out _ _ w.heap.size _ (hrd.below B0) (by omega) (by simp; omega)).mono ?_
  rintro e w1 ⟨g, A1, c1, rfl, y1, y2, y3, y4, y5, y6, y7⟩
  simp only [World.size_alloc] at y5 y6
  have S0 : RS w g w1.heap.size A1 c1 l' 0 #[.int .i64 0, .int .i64 0, .int .u32 0, .int .u32 0, .int .u32 0, .int .u32 0] (w1.alloc (.cells #[.pointer (some ⟨g, 0, none⟩)] 229)) :=
    ⟨⟨y1.alloc _, y2.alloc (Nat.le_of_lt y1.lt) _, fun a ha => by have := y5 a ha; omega⟩, ⟨(X.out.1.below y7 X.out.1.lt).alloc _, (X.out.2.below y7 X.out.2.lt).alloc _, Blk.new _ _ _⟩, balloc (bnext B0 y7) _, by omega, y1.lt⟩
  have HS0 := Lib.hid S0
  have hc1 : c1 ≤ 9223372036854775807 := by unfold maxLen at y4; omega
  clear S0 y1 y2 y4 y5 y6 y7 X B0
  go_wp2_with fail
  with_reducible refine (next_bad w _ (HW.out.below HS0.out.bel) g w1.heap.size c1 0 A1 l' #[.int .i64 0, .int .i64 0, .int .u32 0, .int .u32 0, .int .u32 0, .int .u32 0] 2 HS0.out y3 hc1 (by have := HL.out; omega) R0.out).mono ?_
  rintro e ub ⟨rfl, sb⟩
  go_wp2_with fail
  refine leaves_cons (f := 139) (args := #[.pointer (some ⟨w.heap.size, 0, none⟩), .pointer (some ⟨w.heap.size + 1, 0, none⟩)]) (by simp) (by simp [go_sem]) ?_
  with_reducible refine (catch_pan w.heap.size (w.heap.size + 1) (.int .i64 0) (.int .i64 0) (.int .u32 0) (.int .u32 0) (.int .u32 0) (.int .u32 0) [] _ sb.outB sb.errB (by omega)).mono ?_
  rintro e u' wz ⟨rfl, rfl, z1, z2, z3⟩
  have d0 := (z1).cell 0
  have d1 := (z1).cell 1
  have d2 := (z1).cell 2
  have d3 := (z1).cell 3
  have d4 := (z1).cell 4
  have d5 := (z1).cell 5
  simp only [List.getElem?_toArray, List.getElem?_cons_zero, List.getElem?_cons_succ] at d0 d1 d2 d3 d4 d5
  have h0 := (z2).cell 0
  simp only [List.getElem?_toArray, List.getElem?_cons_zero, List.getElem?_cons_succ] at h0
  have bz := sb.bel.trans (z3 w.heap.size (Nat.le_refl _) (by omega))
  simp [Leaves, settle, results, Tryz.results114, go_sem, d0, d1, d2, d3, d4, d5, h0]
  exact bz

set_option maxHeartbeats 500000 in
theorem eread_bad1 (l' : List UInt8) (n : Nat) (hlen : l'.length = n) (A : Option Addr) (c : Nat) (w : World) (hw : WidthsAt w) (hrd : Rd w w.heap.size A (l'.map b8)) (hlc : n ≤ c) (hcm : c ≤ 9223372036854775807) (hl1 : 2 ≤ n) (hl2 : n < 4) :
    Calls Tryz.prog 114 #[.slice A n c] w fun e w' => e = .returned (.tuple #[.agg #[.int .i64 0, .int .i64 0, .int .u32 0, .int .u32 0, .int .u32 0, .int .u32 0], .int .i64 130]) ∧ Below w.heap.size w w' := by
  have hl : n < 20 := by omega
  have R0 := Lib.hid (show rdF l' ((0 : Nat) : Int) (2 : Int) = (fld l' 0 2, 0) from rdF_fld l' 0 2 (by omega) (by omega))
  have R1 := Lib.hid (show rdF l' ((2 : Nat) : Int) (2 : Int) = (0, 130) from rdF_ends l' 2 2 (by omega) (by omega))
  have hf0 := fld_lt l' 0 2
  generalize fld l' 0 2 = v0 at *
  have hv0 : IntKind.i64.wrap (v0 : Int) = v0 := IntWalk.i64_in _ ⟨by omega, by omega⟩
  have HW := Lib.hid hw
  have HL := Lib.hid hlen
  have B0 : Below w.heap.size w ((w.alloc (.cells #[.int .i64 0, .int .i64 0, .int .u32 0, .int .u32 0, .int .u32 0, .int .u32 0] 57)).alloc (.cells #[.int .i64 0] 29)) := balloc (balloc (Below.refl _ _) _) _
  have x0 := (Blk.new w 57 #[.int .i64 0, .int .i64 0, .int .u32 0, .int .u32 0, .int .u32 0, .int .u32 0]).alloc (.cells #[.int .i64 0] 29)
  have x1 := Blk.new (w.alloc (.cells #[.int .i64 0, .int .i64 0, .int .u32 0, .int .u32 0, .int .u32 0, .int .u32 0] 57)) 29 #[.int .i64 0]
  rw [World.size_alloc] at x1
  have X := Lib.hid (And.intro x0 x1)
  clear hw hlen x0 x1
  have hmf : ∀ (fn : Fn) (first cap : Array Value) (w : World), (Instr.makeFunc fn first cap).run Tryz.prog w = .ok (.func fn first cap) w := fun _ _ _ _ => rfl
  have hmn : min (n : Int) 20 = n := by omega
  go_enter_defers Tryz.func114, Tryz.ntmps114
  go_wp2_with fail
  with_reducible refine (new_rs l' _ HL.out _ _ w.heap.size _ (hrd.below B0) (by omega) (by simp; omega)).mono ?_
  rintro e w1 ⟨g, A1, c1, rfl, y1, y2, y3, y4, y5, y6, y7⟩
  simp only [World.size_alloc] at y5 y6
  have S0 : RS w g w1.heap.size A1 c1 l' 0 #[.int .i64 0, .int .i64 0, .int .u32 0, .int .u32 0, .int .u32 0, .int .u32 0] (w1.alloc (.cells #[.pointer (some ⟨g, 0, none⟩)] 229)) :=
    ⟨⟨y1.alloc _, y2.alloc (Nat.le_of_lt y1.lt) _, fun a ha => by have := y5 a ha; omega⟩, ⟨(X.out.1.below y7 X.out.1.lt).alloc _, (X.out.2.below y7 X.out.2.lt).alloc _, Blk.new _ _ _⟩, balloc (bnext B0 y7) _, by omega, y1.lt⟩
  have HS0 := Lib.hid S0
  have hc1 : c1 ≤ 9223372036854775807 := by unfold maxLen at y4; omega
  clear S0 y1 y2 y4 y5 y6 y7 X B0
  go_wp2_with fail
  with_reducible refine (next_ok w _ (HW.out.below HS0.out.bel) g w1.heap.size c1 0 v0 A1 l' #[.int .i64 0, .int .i64 0, .int .u32 0, .int .u32 0, .int .u32 0, .int .u32 0] 2 HS0.out y3 hc1 (by have := HL.out; omega) (by omega) (by have := HL.out; omega) R0.out).mono ?_
  rintro e u0 ⟨rfl, s0⟩
  replace s0 : RS w g w1.heap.size A1 c1 l' 2 #[.int .i64 0, .int .i64 0, .int .u32 0, .int .u32 0, .int .u32 0, .int .u32 0] u0 := s0
  have d0 := s0.outB.cell 0
  have f0 := s0.outB.frozen 0
  simp only [List.getElem?_toArray, List.getElem?_cons_zero, List.getElem?_cons_succ] at d0
  have t0 := s0.put 0 (.int .i64 v0)
  simp only [List.setIfInBounds_toArray, List.set_cons_zero, List.set_cons_succ] at t0
  have HS1 := Lib.hid t0
  clear s0 t0 HS0
  go_wp2_with fail
  try clear d0 f0
  with_reducible refine (next_bad w _ (HW.out.below HS1.out.bel) g w1.heap.size c1 2 A1 l' #[.int .i64 v0, .int .i64 0, .int .u32 0, .int .u32 0, .int .u32 0, .int .u32 0] 2 HS1.out y3 hc1 (by have := HL.out; omega) R1.out).mono ?_
  rintro e ub ⟨rfl, sb⟩
  go_wp2_with fail
  refine leaves_cons (f := 139) (args := #[.pointer (some ⟨w.heap.size, 0, none⟩), .pointer (some ⟨w.heap.size + 1, 0, none⟩)]) (by simp) (by simp [go_sem]) ?_
  with_reducible refine (catch_pan w.heap.size (w.heap.size + 1) (.int .i64 v0) (.int .i64 0) (.int .u32 0) (.int .u32 0) (.int .u32 0) (.int .u32 0) [] _ sb.outB sb.errB (by omega)).mono ?_
  rintro e u' wz ⟨rfl, rfl, z1, z2, z3⟩
  have d0 := (z1).cell 0
  have d1 := (z1).cell 1
  have d2 := (z1).cell 2
  have d3 := (z1).cell 3
  have d4 := (z1).cell 4
  have d5 := (z1).cell 5
  simp only [List.getElem?_toArray, List.getElem?_cons_zero, List.getElem?_cons_succ] at d0 d1 d2 d3 d4 d5
  have h0 := (z2).cell 0
  simp only [List.getElem?_toArray, List.getElem?_cons_zero, List.getElem?_cons_succ] at h0
  have bz := sb.bel.trans (z3 w.heap.size (Nat.le_refl _) (by omega))
  simp [Leaves, settle, results, Tryz.results114, go_sem, d0, d1, d2, d3, d4, d5, h0]
  exact bz

set_option maxHeartbeats 500000 in
theorem eread_bad2 (l' : List UInt8) (n : Nat) (hlen : l'.length = n) (A : Option Addr) (c : Nat) (w : World) (hw : WidthsAt w) (hrd : Rd w w.heap.size A (l'.map b8)) (hlc : n ≤ c) (hcm : c ≤ 9223372036854775807) (hl1 : 4 ≤ n) (hl2 : n < 8) :
    Calls Tryz.prog 114 #[.slice A n c] w fun e w' => e = .returned (.tuple #[.agg #[.int .i64 0, .int .i64 0, .int .u32 0, .int .u32 0, .int .u32 0, .int .u32 0], .int .i64 130]) ∧ Below w.heap.size w w' := by
  have hl : n < 20 := by omega
  have R0 := Lib.hid (show rdF l' ((0 : Nat) : Int) (2 : Int) = (fld l' 0 2, 0) from rdF_fld l' 0 2 (by omega) (by omega))
  have R1 := Lib.hid (show rdF l' ((2 : Nat) : Int) (2 : Int) = (fld l' 2 2, 0) from rdF_fld l' 2 2 (by omega) (by omega))
  have R2 := Lib.hid (show rdF l' ((4 : Nat) : Int) (4 : Int) = (0, 130) from rdF_ends l' 4 4 (by omega) (by omega))
  have hf0 := fld_lt l' 0 2
  generalize fld l' 0 2 = v0 at *
  have hv0 : IntKind.i64.wrap (v0 : Int) = v0 := IntWalk.i64_in _ ⟨by omega, by omega⟩
  have hf1 := fld_lt l' 2 2
  generalize fld l' 2 2 = v1 at *
  have hv1 : IntKind.i64.wrap (v1 : Int) = v1 := IntWalk.i64_in _ ⟨by omega, by omega⟩
  have HW := Lib.hid hw
  have HL := Lib.hid hlen
  have B0 : Below w.heap.size w ((w.alloc (.cells #[.int .i64 0, .int .i64 0, .int .u32 0, .int .u32 0, .int .u32 0, .int .u32 0] 57)).alloc (.cells #[.int .i64 0] 29)) := balloc (balloc (Below.refl _ _) _) _
  have x0 := (Blk.new w 57 #[.int .i64 0, .int .i64 0, .int .u32 0, .int .u32 0, .int .u32 0, .int .u32 0]).alloc (.cells #[.int .i64 0] 29)
  have x1 := Blk.new (w.alloc (.cells #[.int .i64 0, .int .i64 0, .int .u32 0, .int .u32 0, .int .u32 0, .int .u32 0] 57)) 29 #[.int .i64 0]
  rw [World.size_alloc] at x1
  have X := Lib.hid (And.intro x0 x1)
  clear hw hlen x0 x1
  have hmf : ∀ (fn : Fn) (first cap : Array Value) (w : World), (Instr.makeFunc fn first cap).run Tryz.prog w = .ok (.func fn first cap) w := fun _ _ _ _ => rfl
  have hmn : min (n : Int) 20 = n := by omega
  go_enter_defers Tryz.func114, Tryz.ntmps114
  go_wp2_with fail
  with_reducible refine (new_rs l' _ HL.out _ _ w.heap.size _ (hrd.below B0) (by omega) (by simp; omega)).mono ?_
  rintro e w1 ⟨g, A1, c1, rfl, y1, y2, y3, y4, y5, y6, y7⟩
  simp only [World.size_alloc] at y5 y6
  have S0 : RS w g w1.heap.size A1 c1 l' 0 #[.int .i64 0, .int .i64 0, .int .u32 0, .int .u32 0, .int .u32 0, .int .u32 0] (w1.alloc (.cells #[.pointer (some ⟨g, 0, none⟩)] 229)) :=
    ⟨⟨y1.alloc _, y2.alloc (Nat.le_of_lt y1.lt) _, fun a ha => by have := y5 a ha; omega⟩, ⟨(X.out.1.below y7 X.out.1.lt).alloc _, (X.out.2.below y7 X.out.2.lt).alloc _, Blk.new _ _ _⟩, balloc (bnext B0 y7) _, by omega, y1.lt⟩
  have HS0 := Lib.hid S0
  have hc1 : c1 ≤ 9223372036854775807 := by unfold maxLen at y4; omega
  clear S0 y1 y2 y4 y5 y6 y7 X B0
  go_wp2_with fail
  with_reducible refine (next_ok w _ (HW.out.below HS0.out.bel) g w1.heap.size c1 0 v0 A1 l' #[.int .i64 0, .int .i64 0, .int .u32 0, .int .u32 0, .int .u32 0, .int .u32 0] 2 HS0.out y3 hc1 (by have := HL.out; omega) (by omega) (by have := HL.out; omega) R0.out).mono ?_
  rintro e u0 ⟨rfl, s0⟩
  replace s0 : RS w g w1.heap.size A1 c1 l' 2 #[.int .i64 0, .int .i64 0, .int .u32 0, .int .u32 0, .int .u32 0, .int .u32 0] u0 := s0
  have d0 := s0.outB.cell 0
  have f0 := s0.outB.frozen 0
  simp only [List.getElem?_toArray, List.getElem?_cons_zero, List.getElem?_cons_succ] at d0
  have t0 := s0.put 0 (.int .i64 v0)
  simp only [List.setIfInBounds_toArray, List.set_cons_zero, List.set_cons_succ] at t0
  have HS1 := Lib.hid t0
  clear s0 t0 HS0
  go_wp2_with fail
  try clear d0 f0
  with_reducible refine (next_ok w _ (HW.out.below HS1.out.bel) g w1.heap.size c1 2 v1 A1 l' #[.int .i64 v0, .int .i64 0, .int .u32 0, .int .u32 0, .int .u32 0, .int .u32 0] 2 HS1.out y3 hc1 (by have := HL.out; omega) (by omega) (by have := HL.out; omega) R1.out).mono ?_
  rintro e u1 ⟨rfl, s1⟩
  replace s1 : RS w g w1.heap.size A1 c1 l' 4 #[.int .i64 v0, .int .i64 0, .int .u32 0, .int .u32 0, .int .u32 0, .int .u32 0] u1 := s1
  have d1 := s1.outB.cell 1
  have f1 := s1.outB.frozen 1
  simp only [List.getElem?_toArray, List.getElem?_cons_zero, List.getElem?_cons_succ] at d1
  have t1 := s1.put 1 (.int .i64 v1)
  simp only [List.setIfInBounds_toArray, List.set_cons_zero, List.set_cons_succ] at t1
  have HS2 := Lib.hid t1
  clear s1 t1 HS1
  go_wp2_with fail
  try clear d1 f1
  with_reducible refine (next_bad w _ (HW.out.below HS2.out.bel) g w1.heap.size c1 4 A1 l' #[.int .i64 v0, .int .i64 v1, .int .u32 0, .int .u32 0, .int .u32 0, .int .u32 0] 4 HS2.out y3 hc1 (by have := HL.out; omega) R2.out).mono ?_
  rintro e ub ⟨rfl, sb⟩
  go_wp2_with fail
  refine leaves_cons (f := 139) (args := #[.pointer (some ⟨w.heap.size, 0, none⟩), .pointer (some ⟨w.heap.size + 1, 0, none⟩)]) (by simp) (by simp [go_sem]) ?_
  with_reducible refine (catch_pan w.heap.size (w.heap.size + 1) (.int .i64 v0) (.int .i64 v1) (.int .u32 0) (.int .u32 0) (.int .u32 0) (.int .u32 0) [] _ sb.outB sb.errB (by omega)).mono ?_
  rintro e u' wz ⟨rfl, rfl, z1, z2, z3⟩
  have d0 := (z1).cell 0
  have d1 := (z1).cell 1
  have d2 := (z1).cell 2
  have d3 := (z1).cell 3
  have d4 := (z1).cell 4
  have d5 := (z1).cell 5
  simp only [List.getElem?_toArray, List.getElem?_cons_zero, List.getElem?_cons_succ] at d0 d1 d2 d3 d4 d5
  have h0 := (z2).cell 0
  simp only [List.getElem?_toArray, List.getElem?_cons_zero, List.getElem?_cons_succ] at h0
  have bz := sb.bel.trans (z3 w.heap.size (Nat.le_refl _) (by omega))
  simp [Leaves, settle, results, Tryz.results114, go_sem, d0, d1, d2, d3, d4, d5, h0]
  exact bz

set_option maxHeartbeats 500000 in
theorem eread_bad3 (l' : List UInt8) (n : Nat) (hlen : l'.length = n) (A : Option Addr) (c : Nat) (w : World) (hw : WidthsAt w) (hrd : Rd w w.heap.size A (l'.map b8)) (hlc : n ≤ c) (hcm : c ≤ 9223372036854775807) (hl1 : 8 ≤ n) (hl2 : n < 12) :
    Calls Tryz.prog 114 #[.slice A n c] w fun e w' => e = .returned (.tuple #[.agg #[.int .i64 0, .int .i64 0, .int .u32 0, .int .u32 0, .int .u32 0, .int .u32 0], .int .i64 130]) ∧ Below w.heap.size w w' := by
  have hl : n < 20 := by omega
  have R0 := Lib.hid (show rdF l' ((0 : Nat) : Int) (2 : Int) = (fld l' 0 2, 0) from rdF_fld l' 0 2 (by omega) (by omega))
  have R1 := Lib.hid (show rdF l' ((2 : Nat) : Int) (2 : Int) = (fld l' 2 2, 0) from rdF_fld l' 2 2 (by omega) (by omega))
  have R2 := Lib.hid (show rdF l' ((4 : Nat) : Int) (4 : Int) = (fld l' 4 4, 0) from rdF_fld l' 4 4 (by omega) (by omega))
  have R3 := Lib.hid (show rdF l' ((8 : Nat) : Int) (4 : Int) = (0, 130) from rdF_ends l' 8 4 (by omega) (by omega))
  have hf0 := fld_lt l' 0 2
  generalize fld l' 0 2 = v0 at *
  have hv0 : IntKind.i64.wrap (v0 : Int) = v0 := IntWalk.i64_in _ ⟨by omega, by omega⟩
  have hf1 := fld_lt l' 2 2
  generalize fld l' 2 2 = v1 at *
  have hv1 : IntKind.i64.wrap (v1 : Int) = v1 := IntWalk.i64_in _ ⟨by omega, by omega⟩
  have hf2 := fld_lt l' 4 4
  generalize fld l' 4 4 = v2 at *
  have HW := Lib.hid hw
  have HL := Lib.hid hlen
  have B0 : Below w.heap.size w ((w.alloc (.cells #[.int .i64 0, .int .i64 0, .int .u32 0, .int .u32 0, .int .u32 0, .int .u32 0] 57)).alloc (.cells #[.int .i64 0] 29)) := balloc (balloc (Below.refl _ _) _) _
  have x0 := (Blk.new w 57 #[.int .i64 0, .int .i64 0, .int .u32 0, .int .u32 0, .int .u32 0, .int .u32 0]).alloc (.cells #[.int .i64 0] 29)
  have x1 := Blk.new (w.alloc (.cells #[.int .i64 0, .int .i64 0, .int .u32 0, .int .u32 0, .int .u32 0, .int .u32 0] 57)) 29 #[.int .i64 0]
  rw [World.size_alloc] at x1
  have X := Lib.hid (And.intro x0 x1)
  clear hw hlen x0 x1
  have hmf : ∀ (fn : Fn) (first cap : Array Value) (w : World), (Instr.makeFunc fn first cap).run Tryz.prog w = .ok (.func fn first cap) w := fun _ _ _ _ => rfl
  have hmn : min (n : Int) 20 = n := by omega
  go_enter_defers Tryz.func114, Tryz.ntmps114
  go_wp2_with fail
  with_reducible refine (new_rs l' _ HL.out _ _ w.heap.size _ (hrd.below B0) (by omega) (by simp; omega)).mono ?_
  rintro e w1 ⟨g, A1, c1, rfl, y1, y2, y3, y4, y5, y6, y7⟩
  simp only [World.size_alloc] at y5 y6
  have S0 : RS w g w1.heap.size A1 c1 l' 0 #[.int .i64 0, .int .i64 0, .int .u32 0, .int .u32 0, .int .u32 0, .int .u32 0] (w1.alloc (.cells #[.pointer (some ⟨g, 0, none⟩)] 229)) :=
    ⟨⟨y1.alloc _, y2.alloc (Nat.le_of_lt y1.lt) _, fun a ha => by have := y5 a ha; omega⟩, ⟨(X.out.1.below y7 X.out.1.lt).alloc _, (X.out.2.below y7 X.out.2.lt).alloc _, Blk.new _ _ _⟩, balloc (bnext B0 y7) _, by omega, y1.lt⟩
  have HS0 := Lib.hid S0
  have hc1 : c1 ≤ 9223372036854775807 := by unfold maxLen at y4; omega
  clear S0 y1 y2 y4 y5 y6 y7 X B0
  go_wp2_with fail
  with_reducible refine (next_ok w _ (HW.out.below HS0.out.bel) g w1.heap.size c1 0 v0 A1 l' #[.int .i64 0, .int .i64 0, .int .u32 0, .int .u32 0, .int .u32 0, .int .u32 0] 2 HS0.out y3 hc1 (by have := HL.out; omega) (by omega) (by have := HL.out; omega) R0.out).mono ?_
  rintro e u0 ⟨rfl, s0⟩
  replace s0 : RS w g w1.heap.size A1 c1 l' 2 #[.int .i64 0, .int .i64 0, .int .u32 0, .int .u32 0, .int .u32 0, .int .u32 0] u0 := s0
  have d0 := s0.outB.cell 0
  have f0 := s0.outB.frozen 0
  simp only [List.getElem?_toArray, List.getElem?_cons_zero, List.getElem?_cons_succ] at d0
  have t0 := s0.put 0 (.int .i64 v0)
  simp only [List.setIfInBounds_toArray, List.set_cons_zero, List.set_cons_succ] at t0
  have HS1 := Lib.hid t0
  clear s0 t0 HS0
  go_wp2_with fail
  try clear d0 f0
  with_reducible refine (next_ok w _ (HW.out.below HS1.out.bel) g w1.heap.size c1 2 v1 A1 l' #[.int .i64 v0, .int .i64 0, .int .u32 0, .int .u32 0, .int .u32 0, .int .u32 0] 2 HS1.out y3 hc1 (by have := HL.out; omega) (by omega) (by have := HL.out; omega) R1.out).mono ?_
  rintro e u1 ⟨rfl, s1⟩
  replace s1 : RS w g w1.heap.size A1 c1 l' 4 #[.int .i64 v0, .int .i64 0, .int .u32 0, .int .u32 0, .int .u32 0, .int .u32 0] u1 := s1
  have d1 := s1.outB.cell 1
  have f1 := s1.outB.frozen 1
  simp only [List.getElem?_toArray, List.getElem?_cons_zero, List.getElem?_cons_succ] at d1
  have t1 := s1.put 1 (.int .i64 v1)
  simp only [List.setIfInBounds_toArray, List.set_cons_zero, List.set_cons_succ] at t1
  have HS2 := Lib.hid t1
  clear s1 t1 HS1
  go_wp2_with fail
  try clear d1 f1
  with_reducible refine (next_ok w _ (HW.out.below HS2.out.bel) g w1.heap.size c1 4 v2 A1 l' #[.int .i64 v0, .int .i64 v1, .int .u32 0, .int .u32 0, .int .u32 0, .int .u32 0] 4 HS2.out y3 hc1 (by have := HL.out; omega) (by omega) (by have := HL.out; omega) R2.out).mono ?_
  rintro e u2 ⟨rfl, s2⟩
  replace s2 : RS w g w1.heap.size A1 c1 l' 8 #[.int .i64 v0, .int .i64 v1, .int .u32 0, .int .u32 0, .int .u32 0, .int .u32 0] u2 := s2
  have d2 := s2.outB.cell 2
  have f2 := s2.outB.frozen 2
  simp only [List.getElem?_toArray, List.getElem?_cons_zero, List.getElem?_cons_succ] at d2
  have t2 := s2.put 2 (.int .u32 v2)
  simp only [List.setIfInBounds_toArray, List.set_cons_zero, List.set_cons_succ] at t2
  have HS3 := Lib.hid t2
  clear s2 t2 HS2
  go_wp2_with fail
  try clear d2 f2
  with_reducible refine (next_bad w _ (HW.out.below HS3.out.bel) g w1.heap.size c1 8 A1 l' #[.int .i64 v0, .int .i64 v1, .int .u32 v2, .int .u32 0, .int .u32 0, .int .u32 0] 4 HS3.out y3 hc1 (by have := HL.out; omega) R3.out).mono ?_
  rintro e ub ⟨rfl, sb⟩
  go_wp2_with fail
  refine leaves_cons (f := 139) (args := #[.pointer (some ⟨w.heap.size, 0, none⟩), .pointer (some ⟨w.heap.size + 1, 0, none⟩)]) (by simp) (by simp [go_sem]) ?_
  with_reducible refine (catch_pan w.heap.size (w.heap.size + 1) (.int .i64 v0) (.int .i64 v1) (.int .u32 v2) (.int .u32 0) (.int .u32 0) (.int .u32 0) [] _ sb.outB sb.errB (by omega)).mono ?_
  rintro e u' wz ⟨rfl, rfl, z1, z2, z3⟩
  have d0 := (z1).cell 0
  have d1 := (z1).cell 1
  have d2 := (z1).cell 2
  have d3 := (z1).cell 3
  have d4 := (z1).cell 4
  have d5 := (z1).cell 5
  simp only [List.getElem?_toArray, List.getElem?_cons_zero, List.getElem?_cons_succ] at d0 d1 d2 d3 d4 d5
  have h0 := (z2).cell 0
  simp only [List.getElem?_toArray, List.getElem?_cons_zero, List.getElem?_cons_succ] at h0
  have bz := sb.bel.trans (z3 w.heap.size (Nat.le_refl _) (by omega))
  simp [Leaves, settle, results, Tryz.results114, go_sem, d0, d1, d2, d3, d4, d5, h0]
  exact bz

set_option maxHeartbeats 500000 in
theorem eread_bad4 (l' : List UInt8) (n : Nat) (hlen : l'.length = n) (A : Option Addr) (c : Nat) (w : World) (hw : WidthsAt w) (hrd : Rd w w.heap.size A (l'.map b8)) (hlc : n ≤ c) (hcm : c ≤ 9223372036854775807) (hl1 : 12 ≤ n) (hl2 : n < 16) :
    Calls Tryz.prog 114 #[.slice A n c] w fun e w' => e = .returned (.tuple #[.agg #[.int .i64 0, .int .i64 0, .int .u32 0, .int .u32 0, .int .u32 0, .int .u32 0], .int .i64 130]) ∧ Below w.heap.size w w' := by
  have hl : n < 20 := by omega
  have R0 := Lib.hid (show rdF l' ((0 : Nat) : Int) (2 : Int) = (fld l' 0 2, 0) from rdF_fld l' 0 2 (by omega) (by omega))
  have R1 := Lib.hid (show rdF l' ((2 : Nat) : Int) (2 : Int) = (fld l' 2 2, 0) from rdF_fld l' 2 2 (by omega) (by omega))
  have R2 := Lib.hid (show rdF l' ((4 : Nat) : Int) (4 : Int) = (fld l' 4 4, 0) from rdF_fld l' 4 4 (by omega) (by omega))
  have R3 := Lib.hid (show rdF l' ((8 : Nat) : Int) (4 : Int) = (fld l' 8 4, 0) from rdF_fld l' 8 4 (by omega) (by omega))
  have R4 := Lib.hid (show rdF l' ((12 : Nat) : Int) (4 : Int) = (0, 130) from rdF_ends l' 12 4 (by omega) (by omega))
  have hf0 := fld_lt l' 0 2
  generalize fld l' 0 2 = v0 at *
  have hv0 : IntKind.i64.wrap (v0 : Int) = v0 := IntWalk.i64_in _ ⟨by omega, by omega⟩
  have hf1 := fld_lt l' 2 2
  generalize fld l' 2 2 = v1 at *
  have hv1 : IntKind.i64.wrap (v1 : Int) = v1 := IntWalk.i64_in _ ⟨by omega, by omega⟩
  have hf2 := fld_lt l' 4 4
  generalize fld l' 4 4 = v2 at *
  have hf3 := fld_lt l' 8 4
  generalize fld l' 8 4 = v3 at *
  have HW := Lib.hid hw
  have HL := Lib.hid hlen
  have B0 : Below w.heap.size w ((w.alloc (.cells #[.int .i64 0, .int .i64 0, .int .u32 0, .int .u32 0, .int .u32 0, .int .u32 0] 57)).alloc (.cells #[.int .i64 0] 29)) := balloc (balloc (Below.refl _ _) _) _
  have x0 := (Blk.new w 57 #[.int .i64 0, .int .i64 0, .int .u32 0, .int .u32 0, .int .u32 0, .int .u32 0]).alloc (.cells #[.int .i64 0] 29)
  have x1 := Blk.new (w.alloc (.cells #[.int .i64 0, .int .i64 0, .int .u32 0, .int .u32 0, .int .u32 0, .int .u32 0] 57)) 29 #[.int .i64 0]
  rw [World.size_alloc] at x1
  have X := Lib.hid (And.intro x0 x1)
  clear hw hlen x0 x1
  have hmf : ∀ (fn : Fn) (first cap : Array Value) (w : World), (Instr.makeFunc fn first cap).run Tryz.prog w = .ok (.func fn first cap) w := fun _ _ _ _ => rfl
  have hmn : min (n : Int) 20 = n := by omega
  go_enter_defers Tryz.func114, Tryz.ntmps114
  go_wp2_with fail
  with_reducible refine (new_rs l' _ HL.out _ _ w.heap.size _ (hrd.below B0) (by omega) (by simp; omega)).mono ?_
  rintro e w1 ⟨g, A1, c1, rfl, y1, y2, y3, y4, y5, y6, y7⟩
  simp only [World.size_alloc] at y5 y6
  have S0 : RS w g w1.heap.size A1 c1 l' 0 #[.int .i64 0, .int .i64 0, .int .u32 0, .int .u32 0, .int .u32 0, .int .u32 0] (w1.alloc (.cells #[.pointer (some ⟨g, 0, none⟩)] 229)) :=
    ⟨⟨y1.alloc _, y2.alloc (Nat.le_of_lt y1.lt) _, fun a ha => by have := y5 a ha; omega⟩, ⟨(X.out.1.below y7 X.out.1.lt).alloc _, (X.out.2.below y7 X.out.2.lt).alloc _, Blk.new _ _ _⟩, balloc (bnext B0 y7) _, by omega, y1.lt⟩
  have HS0 := Lib.hid S0
  have hc1 : c1 ≤ 9223372036854775807 := by unfold maxLen at y4; omega
  clear S0 y1 y2 y4 y5 y6 y7 X B0
  go_wp2_with fail
  with_reducible refine (next_ok w _ (HW.out.below HS0.out.bel) g w1.heap.size c1 0 v0 A1 l' #[.int .i64 0, .int .i64 0, .int .u32 0, .int .u32 0, .int .u32 0, .int .u32 0] 2 HS0.out y3 hc1 (by have := HL.out; omega) (by omega) (by have := HL.out; omega) R0.out).mono ?_
  rintro e u0 ⟨rfl, s0⟩
  replace s0 : RS w g w1.heap.size A1 c1 l' 2 #[.int .i64 0, .int .i64 0, .int .u32 0, .int .u32 0, .int .u32 0, .int .u32 0] u0 := s0
  have d0 := s0.outB.cell 0
  have f0 := s0.outB.frozen 0
  simp only [List.getElem?_toArray, List.getElem?_cons_zero, List.getElem?_cons_succ] at d0
  have t0 := s0.put 0 (.int .i64 v0)
  simp only [List.setIfInBounds_toArray, List.set_cons_zero, List.set_cons_succ] at t0
  have HS1 := Lib.hid t0
  clear s0 t0 HS0
  go_wp2_with fail
  try clear d0 f0
  with_reducible refine (next_ok w _ (HW.out.below HS1.out.bel) g w1.heap.size c1 2 v1 A1 l' #[.int .i64 v0, .int .i64 0, .int .u32 0, .int .u32 0, .int .u32 0, .int .u32 0] 2 HS1.out y3 hc1 (by have := HL.out; omega) (by omega) (by have := HL.out; omega) R1.out).mono ?_
  rintro e u1 ⟨rfl, s1⟩
  replace s1 : RS w g w1.heap.size A1 c1 l' 4 #[.int .i64 v0, .int .i64 0, .int .u32 0, .int .u32 0, .int .u32 0, .int .u32 0] u1 := s1
  have d1 := s1.outB.cell 1
  have f1 := s1.outB.frozen 1
  simp only [List.getElem?_toArray, List.getElem?_cons_zero, List.getElem?_cons_succ] at d1
  have t1 := s1.put 1 (.int .i64 v1)
  simp only [List.setIfInBounds_toArray, List.set_cons_zero, List.set_cons_succ] at t1
  have HS2 := Lib.hid t1
  clear s1 t1 HS1
  go_wp2_with fail
  try clear d1 f1
  with_reducible refine (next_ok w _ (HW.out.below HS2.out.bel) g w1.heap.size c1 4 v2 A1 l' #[.int .i64 v0, .int .i64 v1, .int .u32 0, .int .u32 0, .int .u32 0, .int .u32 0] 4 HS2.out y3 hc1 (by have := HL.out; omega) (by omega) (by have := HL.out; omega) R2.out).mono ?_
  rintro e u2 ⟨rfl, s2⟩
  replace s2 : RS w g w1.heap.size A1 c1 l' 8 #[.int .i64 v0, .int .i64 v1, .int .u32 0, .int .u32 0, .int .u32 0, .int .u32 0] u2 := s2
  have d2 := s2.outB.cell 2
  have f2 := s2.outB.frozen 2
  simp only [List.getElem?_toArray, List.getElem?_cons_zero, List.getElem?_cons_succ] at d2
  have t2 := s2.put 2 (.int .u32 v2)
  simp only [List.setIfInBounds_toArray, List.set_cons_zero, List.set_cons_succ] at t2
  have HS3 := Lib.hid t2
  clear s2 t2 HS2
  go_wp2_with fail
  try clear d2 f2
  with_reducible refine (next_ok w _ (HW.out.below HS3.out.bel) g w1.heap.size c1 8 v3 A1 l' #[.int .i64 v0, .int .i64 v1, .int .u32 v2, .int .u32 0, .int .u32 0, .int .u32 0] 4 HS3.out y3 hc1 (by have := HL.out; omega) (by omega) (by have := HL.out; omega) R3.out).mono ?_
  rintro e u3 ⟨rfl, s3⟩
  replace s3 : RS w g w1.heap.size A1 c1 l' 12 #[.int .i64 v0, .int .i64 v1, .int .u32 v2, .int .u32 0, .int .u32 0, .int .u32 0] u3 := s3
  have d3 := s3.outB.cell 3
  have f3 := s3.outB.frozen 3
  simp only [List.getElem?_toArray, List.getElem?_cons_zero, List.getElem?_cons_succ] at d3
  have t3 := s3.put 3 (.int .u32 v3)
  simp only [List.setIfInBounds_toArray, List.set_cons_zero, List.set_cons_succ] at t3
  have HS4 := Lib.hid t3
  clear s3 t3 HS3
  go_wp2_with fail
  try clear d3 f3
  with_reducible refine (next_bad w _ (HW.out.below HS4.out.bel) g w1.heap.size c1 12 A1 l' #[.int .i64 v0, .int .i64 v1, .int .u32 v2, .int .u32 v3, .int .u32 0, .int .u32 0] 4 HS4.out y3 hc1 (by have := HL.out; omega) R4.out).mono ?_
  rintro e ub ⟨rfl, sb⟩
  go_wp2_with fail
  refine leaves_cons (f := 139) (args := #[.pointer (some ⟨w.heap.size, 0, none⟩), .pointer (some ⟨w.heap.size + 1, 0, none⟩)]) (by simp) (by simp [go_sem]) ?_
  with_reducible refine (catch_pan w.heap.size (w.heap.size + 1) (.int .i64 v0) (.int .i64 v1) (.int .u32 v2) (.int .u32 v3) (.int .u32 0) (.int .u32 0) [] _ sb.outB sb.errB (by omega)).mono ?_
  rintro e u' wz ⟨rfl, rfl, z1, z2, z3⟩
  have d0 := (z1).cell 0
  have d1 := (z1).cell 1
  have d2 := (z1).cell 2
  have d3 := (z1).cell 3
  have d4 := (z1).cell 4
  have d5 := (z1).cell 5
  simp only [List.getElem?_toArray, List.getElem?_cons_zero, List.getElem?_cons_succ] at d0 d1 d2 d3 d4 d5
  have h0 := (z2).cell 0
  simp only [List.getElem?_toArray, List.getElem?_cons_zero, List.getElem?_cons_succ] at h0
  have bz := sb.bel.trans (z3 w.heap.size (Nat.le_refl _) (by omega))
  simp [Leaves, settle, results, Tryz.results114, go_sem, d0, d1, d2, d3, d4, d5, h0]
  exact bz

set_option maxHeartbeats 500000 in
theorem eread_bad5 (l' : List UInt8) (n : Nat) (hlen : l'.length = n) (A : Option Addr) (c : Nat) (w : World) (hw : WidthsAt w) (hrd : Rd w w.heap.size A (l'.map b8)) (hlc : n ≤ c) (hcm : c ≤ 9223372036854775807) (hl1 : 16 ≤ n) (hl2 : n < 20) :
    Calls Tryz.prog 114 #[.slice A n c] w fun e w' => e = .returned (.tuple #[.agg #[.int .i64 0, .int .i64 0, .int .u32 0, .int .u32 0, .int .u32 0, .int .u32 0], .int .i64 130]) ∧ Below w.heap.size w w' := by
  have hl : n < 20 := by omega
  have R0 := Lib.hid (show rdF l' ((0 : Nat) : Int) (2 : Int) = (fld l' 0 2, 0) from rdF_fld l' 0 2 (by omega) (by omega))
  have R1 := Lib.hid (show rdF l' ((2 : Nat) : Int) (2 : Int) = (fld l' 2 2, 0) from rdF_fld l' 2 2 (by omega) (by omega))
  have R2 := Lib.hid (show rdF l' ((4 : Nat) : Int) (4 : Int) = (fld l' 4 4, 0) from rdF_fld l' 4 4 (by omega) (by omega))
  have R3 := Lib.hid (show rdF l' ((8 : Nat) : Int) (4 : Int) = (fld l' 8 4, 0) from rdF_fld l' 8 4 (by omega) (by omega))
  have R4 := Lib.hid (show rdF l' ((12 : Nat) : Int) (4 : Int) = (fld l' 12 4, 0) from rdF_fld l' 12 4 (by omega) (by omega))
  have R5 := Lib.hid (show rdF l' ((16 : Nat) : Int) (4 : Int) = (0, 130) from rdF_ends l' 16 4 (by omega) (by omega))
  have hf0 := fld_lt l' 0 2
  generalize fld l' 0 2 = v0 at *
  have hv0 : IntKind.i64.wrap (v0 : Int) = v0 := IntWalk.i64_in _ ⟨by omega, by omega⟩
  have hf1 := fld_lt l' 2 2
  generalize fld l' 2 2 = v1 at *
  have hv1 : IntKind.i64.wrap (v1 : Int) = v1 := IntWalk.i64_in _ ⟨by omega, by omega⟩
  have hf2 := fld_lt l' 4 4
  generalize fld l' 4 4 = v2 at *
  have hf3 := fld_lt l' 8 4
  generalize fld l' 8 4 = v3 at *
  have hf4 := fld_lt l' 12 4
  generalize fld l' 12 4 = v4 at *
  have HW := Lib.hid hw
  have HL := Lib.hid hlen
  have B0 : Below w.heap.size w ((w.alloc (.cells #[.int .i64 0, .int .i64 0, .int .u32 0, .int .u32 0, .int .u32 0, .int .u32 0] 57)).alloc (.cells #[.int .i64 0] 29)) := balloc (balloc (Below.refl _ _) _) _
  have x0 := (Blk.new w 57 #[.int .i64 0, .int .i64 0, .int .u32 0, .int .u32 0, .int .u32 0, .int .u32 0]).alloc (.cells #[.int .i64 0] 29)
  have x1 := Blk.new (w.alloc (.cells #[.int .i64 0, .int .i64 0, .int .u32 0, .int .u32 0, .int .u32 0, .int .u32 0] 57)) 29 #[.int .i64 0]
  rw [World.size_alloc] at x1
  have X := Lib.hid (And.intro x0 x1)
  clear hw hlen x0 x1
  have hmf : ∀ (fn : Fn) (first cap : Array Value) (w : World), (Instr.makeFunc fn first cap).run Tryz.prog w = .ok (.func fn first cap) w := fun _ _ _ _ => rfl
  have hmn : min (n : Int) 20 = n := by omega
  go_enter_defers Tryz.func114, Tryz.ntmps114
  go_wp2_with fail
  with_reducible refine (new_rs l' _ HL.out _ _ w.heap.size _ (hrd.below B0) (by omega) (by simp; omega)).mono ?_
  rintro e w1 ⟨g, A1, c1, rfl, y1, y2, y3, y4, y5, y6, y7⟩
  simp only [World.size_alloc] at y5 y6
  have S0 : RS w g w1.heap.size A1 c1 l' 0 #[.int .i64 0, .int .i64 0, .int .u32 0, .int .u32 0, .int .u32 0, .int .u32 0] (w1.alloc (.cells #[.pointer (some ⟨g, 0, none⟩)] 229)) :=
    ⟨⟨y1.alloc _, y2.alloc (Nat.le_of_lt y1.lt) _, fun a ha => by have := y5 a ha; omega⟩, ⟨(X.out.1.below y7 X.out.1.lt).alloc _, (X.out.2.below y7 X.out.2.lt).alloc _, Blk.new _ _ _⟩, balloc (bnext B0 y7) _, by omega, y1.lt⟩
  have HS0 := Lib.hid S0
  have hc1 : c1 ≤ 9223372036854775807 := by unfold maxLen at y4; omega
  clear S0 y1 y2 y4 y5 y6 y7 X B0
  go_wp2_with fail
  with_reducible refine (next_ok w _ (HW.out.below HS0.out.bel) g w1.heap.size c1 0 v0 A1 l' #[.int .i64 0, .int .i64 0, .int .u32 0, .int .u32 0, .int .u32 0, .int .u32 0] 2 HS0.out y3 hc1 (by have := HL.out; omega) (by omega) (by have := HL.out; omega) R0.out).mono ?_
  rintro e u0 ⟨rfl, s0⟩
  replace s0 : RS w g w1.heap.size A1 c1 l' 2 #[.int .i64 0, .int .i64 0, .int .u32 0, .int .u32 0, .int .u32 0, .int .u32 0] u0 := s0
  have d0 := s0.outB.cell 0
  have f0 := s0.outB.frozen 0
  simp only [List.getElem?_toArray, List.getElem?_cons_zero, List.getElem?_cons_succ] at d0
  have t0 := s0.put 0 (.int .i64 v0)
  simp only [List.setIfInBounds_toArray, List.set_cons_zero, List.set_cons_succ] at t0
  have HS1 := Lib.hid t0
  clear s0 t0 HS0
  go_wp2_with fail
  try clear d0 f0
  with_reducible refine (next_ok w _ (HW.out.below HS1.out.bel) g w1.heap.size c1 2 v1 A1 l' #[.int .i64 v0, .int .i64 0, .int .u32 0, .int .u32 0, .int .u32 0, .int .u32 0] 2 HS1.out y3 hc1 (by have := HL.out; omega) (by omega) (by have := HL.out; omega) R1.out).mono ?_
  rintro e u1 ⟨rfl, s1⟩
  replace s1 : RS w g w1.heap.size A1 c1 l' 4 #[.int .i64 v0, .int .i64 0, .int .u32 0, .int .u32 0, .int .u32 0, .int .u32 0] u1 := s1
  have d1 := s1.outB.cell 1
  have f1 := s1.outB.frozen 1
  simp only [List.getElem?_toArray, List.getElem?_cons_zero, List.getElem?_cons_succ] at d1
  have t1 := s1.put 1 (.int .i64 v1)
  simp only [List.setIfInBounds_toArray, List.set_cons_zero, List.set_cons_succ] at t1
  have HS2 := Lib.hid t1
  clear s1 t1 HS1
  go_wp2_with fail
  try clear d1 f1
  with_reducible refine (next_ok w _ (HW.out.below HS2.out.bel) g w1.heap.size c1 4 v2 A1 l' #[.int .i64 v0, .int .i64 v1, .int .u32 0, .int .u32 0, .int .u32 0, .int .u32 0] 4 HS2.out y3 hc1 (by have := HL.out; omega) (by omega) (by have := HL.out; omega) R2.out).mono ?_
  rintro e u2 ⟨rfl, s2⟩
  replace s2 : RS w g w1.heap.size A1 c1 l' 8 #[.int .i64 v0, .int .i64 v1, .int .u32 0, .int .u32 0, .int .u32 0, .int .u32 0] u2 := s2
  have d2 := s2.outB.cell 2
  have f2 := s2.outB.frozen 2
  simp only [List.getElem?_toArray, List.getElem?_cons_zero, List.getElem?_cons_succ] at d2
  have t2 := s2.put 2 (.int .u32 v2)
  simp only [List.setIfInBounds_toArray, List.set_cons_zero, List.set_cons_succ] at t2
  have HS3 := Lib.hid t2
  clear s2 t2 HS2
  go_wp2_with fail
  try clear d2 f2
  with_reducible refine (next_ok w _ (HW.out.below HS3.out.bel) g w1.heap.size c1 8 v3 A1 l' #[.int .i64 v0, .int .i64 v1, .int .u32 v2, .int .u32 0, .int .u32 0, .int .u32 0] 4 HS3.out y3 hc1 (by have := HL.out; omega) (by omega) (by have := HL.out; omega) R3.out).mono ?_
  rintro e u3 ⟨rfl, s3⟩
  replace s3 : RS w g w1.heap.size A1 c1 l' 12 #[.int .i64 v0, .int .i64 v1, .int .u32 v2, .int .u32 0, .int .u32 0, .int .u32 0] u3 := s3
  have d3 := s3.outB.cell 3
  have f3 := s3.outB.frozen 3
  simp only [List.getElem?_toArray, List.getElem?_cons_zero, List.getElem?_cons_succ] at d3
  have t3 := s3.put 3 (.int .u32 v3)
  simp only [List.setIfInBounds_toArray, List.set_cons_zero, List.set_cons_succ] at t3
  have HS4 := Lib.hid t3
  clear s3 t3 HS3
  go_wp2_with fail
  try clear d3 f3
  with_reducible refine (next_ok w _ (HW.out.below HS4.out.bel) g w1.heap.size c1 12 v4 A1 l' #[.int .i64 v0, .int .i64 v1, .int .u32 v2, .int .u32 v3, .int .u32 0, .int .u32 0] 4 HS4.out y3 hc1 (by have := HL.out; omega) (by omega) (by have := HL.out; omega) R4.out).mono ?_
  rintro e u4 ⟨rfl, s4⟩
  replace s4 : RS w g w1.heap.size A1 c1 l' 16 #[.int .i64 v0, .int .i64 v1, .int .u32 v2, .int .u32 v3, .int .u32 0, .int .u32 0] u4 := s4
  have d4 := s4.outB.cell 4
  have f4 := s4.outB.frozen 4
  simp only [List.getElem?_toArray, List.getElem?_cons_zero, List.getElem?_cons_succ] at d4
  have t4 := s4.put 4 (.int .u32 v4)
  simp only [List.setIfInBounds_toArray, List.set_cons_zero, List.set_cons_succ] at t4
  have HS5 := Lib.hid t4
  clear s4 t4 HS4
  go_wp2_with fail
  try clear d4 f4
  with_reducible refine (next_bad w _ (HW.out.below HS5.out.bel) g w1.heap.size c1 16 A1 l' #[.int .i64 v0, .int .i64 v1, .int .u32 v2, .int .u32 v3, .int .u32 v4, .int .u32 0] 4 HS5.out y3 hc1 (by have := HL.out; omega) R5.out).mono ?_
  rintro e ub ⟨rfl, sb⟩
  go_wp2_with fail
  refine leaves_cons (f := 139) (args := #[.pointer (some ⟨w.heap.size, 0, none⟩), .pointer (some ⟨w.heap.size + 1, 0, none⟩)]) (by simp) (by simp [go_sem]) ?_
  with_reducible refine (catch_pan w.heap.size (w.heap.size + 1) (.int .i64 v0) (.int .i64 v1) (.int .u32 v2) (.int .u32 v3) (.int .u32 v4) (.int .u32 0) [] _ sb.outB sb.errB (by omega)).mono ?_
  rintro e u' wz ⟨rfl, rfl, z1, z2, z3⟩
  have d0 := (z1).cell 0
  have d1 := (z1).cell 1
  have d2 := (z1).cell 2
  have d3 := (z1).cell 3
  have d4 := (z1).cell 4
  have d5 := (z1).cell 5
  simp only [List.getElem?_toArray, List.getElem?_cons_zero, List.getElem?_cons_succ] at d0 d1 d2 d3 d4 d5
  have h0 := (z2).cell 0
  simp only [List.getElem?_toArray, List.getElem?_cons_zero, List.getElem?_cons_succ] at h0
  have bz := sb.bel.trans (z3 w.heap.size (Nat.le_refl _) (by omega))
  simp [Leaves, settle, results, Tryz.results114, go_sem, d0, d1, d2, d3, d4, d5, h0]
  exact bz

set_option maxHeartbeats 500000 in
theorem eread_ok (l : List UInt8) (A : Option Addr) (c : Nat) (w : World) (hw : WidthsAt w) (hr : Rd w w.heap.size A (l.map b8)) (hlc : l.length ≤ c) (hcm : c ≤ 9223372036854775807) (hl : 20 ≤ l.length) :
    Calls Tryz.prog 114 #[.slice A l.length c] w fun e w' => e = .returned (.tuple #[readE l, .int .i64 0]) ∧ Below w.heap.size w w' := by
  have hE : readE l = readE (l.take 20) := by unfold readE; rw [fld_take l 20 0 2 (by omega), fld_take l 20 2 2 (by omega), fld_take l 20 4 4 (by omega), fld_take l 20 8 4 (by omega), fld_take l 20 12 4 (by omega), fld_take l 20 16 4 (by omega)]
  rw [hE]
  have hrd : Rd w w.heap.size A ((l.take 20).map b8) := by
    have h := hr
    rw [← List.take_append_drop 20 l, List.map_append] at h
    exact h.pre
  have hlen : (l.take 20).length = 20 := by simp; omega
  clear hE hr
  generalize hgl : l.length = n at *
  clear hgl
  generalize l.take 20 = l' at *
  have R0 := Lib.hid (show rdF l' ((0 : Nat) : Int) (2 : Int) = (fld l' 0 2, 0) from rdF_fld l' 0 2 (by omega) (by omega))
  have R1 := Lib.hid (show rdF l' ((2 : Nat) : Int) (2 : Int) = (fld l' 2 2, 0) from rdF_fld l' 2 2 (by omega) (by omega))
  have R2 := Lib.hid (show rdF l' ((4 : Nat) : Int) (4 : Int) = (fld l' 4 4, 0) from rdF_fld l' 4 4 (by omega) (by omega))
  have R3 := Lib.hid (show rdF l' ((8 : Nat) : Int) (4 : Int) = (fld l' 8 4, 0) from rdF_fld l' 8 4 (by omega) (by omega))
  have R4 := Lib.hid (show rdF l' ((12 : Nat) : Int) (4 : Int) = (fld l' 12 4, 0) from rdF_fld l' 12 4 (by omega) (by omega))
  have R5 := Lib.hid (show rdF l' ((16 : Nat) : Int) (4 : Int) = (fld l' 16 4, 0) from rdF_fld l' 16 4 (by omega) (by omega))
  unfold readE
  have hf0 := fld_lt l' 0 2
  generalize fld l' 0 2 = v0 at *
  have hv0 : IntKind.i64.wrap (v0 : Int) = v0 := IntWalk.i64_in _ ⟨by omega, by omega⟩
  have hf1 := fld_lt l' 2 2
  generalize fld l' 2 2 = v1 at *
  have hv1 : IntKind.i64.wrap (v1 : Int) = v1 := IntWalk.i64_in _ ⟨by omega, by omega⟩
  have hf2 := fld_lt l' 4 4
  generalize fld l' 4 4 = v2 at *
  have hf3 := fld_lt l' 8 4
  generalize fld l' 8 4 = v3 at *
  have hf4 := fld_lt l' 12 4
  generalize fld l' 12 4 = v4 at *
  have hf5 := fld_lt l' 16 4
  generalize fld l' 16 4 = v5 at *
  have HW := Lib.hid hw
  have HL := Lib.hid hlen
  have B0 : Below w.heap.size w ((w.alloc (.cells #[.int .i64 0, .int .i64 0, .int .u32 0, .int .u32 0, .int .u32 0, .int .u32 0] 57)).alloc (.cells #[.int .i64 0] 29)) := balloc (balloc (Below.refl _ _) _) _
  have x0 := (Blk.new w 57 #[.int .i64 0, .int .i64 0, .int .u32 0, .int .u32 0, .int .u32 0, .int .u32 0]).alloc (.cells #[.int .i64 0] 29)
  have x1 := Blk.new (w.alloc (.cells #[.int .i64 0, .int .i64 0, .int .u32 0, .int .u32 0, .int .u32 0, .int .u32 0] 57)) 29 #[.int .i64 0]
  rw [World.size_alloc] at x1
  have X := Lib.hid (And.intro x0 x1)
  clear hw hlen x0 x1
  have hmf : ∀ (fn : Fn) (first cap : Array Value) (w : World), (Instr.makeFunc fn first cap).run Tryz.prog w = .ok (.func fn first cap) w := fun _ _ _ _ => rfl
  have hmn : min (n : Int) 20 = 20 := by omega
  go_enter_defers Tryz.func114, Tryz.ntmps114
  go_wp2_with fail
  with_reducible refine (new_rs l' _ HL.out _ _ w.heap.size _ (hrd.below B0) (by omega) (by simp; omega)).mono ?_
  rintro e w1 ⟨g, A1, c1, rfl, y1, y2, y3, y4, y5, y6, y7⟩
  simp only [World.size_alloc] at y5 y6
  have S0 : RS w g w1.heap.size A1 c1 l' 0 #[.int .i64 0, .int .i64 0, .int .u32 0, .int .u32 0, .int .u32 0, .int .u32 0] (w1.alloc (.cells #[.pointer (some ⟨g, 0, none⟩)] 229)) :=
    ⟨⟨y1.alloc _, y2.alloc (Nat.le_of_lt y1.lt) _, fun a ha => by have := y5 a ha; omega⟩, ⟨(X.out.1.below y7 X.out.1.lt).alloc _, (X.out.2.below y7 X.out.2.lt).alloc _, Blk.new _ _ _⟩, balloc (bnext B0 y7) _, by omega, y1.lt⟩
  have HS0 := Lib.hid S0
  have hc1 : c1 ≤ 9223372036854775807 := by unfold maxLen at y4; omega
  clear S0 y1 y2 y4 y5 y6 y7 X B0
  go_wp2_with fail
  with_reducible refine (next_ok w _ (HW.out.below HS0.out.bel) g w1.heap.size c1 0 v0 A1 l' #[.int .i64 0, .int .i64 0, .int .u32 0, .int .u32 0, .int .u32 0, .int .u32 0] 2 HS0.out y3 hc1 (by have := HL.out; omega) (by omega) (by have := HL.out; omega) R0.out).mono ?_
  rintro e u0 ⟨rfl, s0⟩
  replace s0 : RS w g w1.heap.size A1 c1 l' 2 #[.int .i64 0, .int .i64 0, .int .u32 0, .int .u32 0, .int .u32 0, .int .u32 0] u0 := s0
  have d0 := s0.outB.cell 0
  have f0 := s0.outB.frozen 0
  simp only [List.getElem?_toArray, List.getElem?_cons_zero, List.getElem?_cons_succ] at d0
  have t0 := s0.put 0 (.int .i64 v0)
  simp only [List.setIfInBounds_toArray, List.set_cons_zero, List.set_cons_succ] at t0
  have HS1 := Lib.hid t0
  clear s0 t0 HS0
  go_wp2_with fail
  try clear d0 f0
  with_reducible refine (next_ok w _ (HW.out.below HS1.out.bel) g w1.heap.size c1 2 v1 A1 l' #[.int .i64 v0, .int .i64 0, .int .u32 0, .int .u32 0, .int .u32 0, .int .u32 0] 2 HS1.out y3 hc1 (by have := HL.out; omega) (by omega) (by have := HL.out; omega) R1.out).mono ?_
  rintro e u1 ⟨rfl, s1⟩
  replace s1 : RS w g w1.heap.size A1 c1 l' 4 #[.int .i64 v0, .int .i64 0, .int .u32 0, .int .u32 0, .int .u32 0, .int .u32 0] u1 := s1
  have d1 := s1.outB.cell 1
  have f1 := s1.outB.frozen 1
  simp only [List.getElem?_toArray, List.getElem?_cons_zero, List.getElem?_cons_succ] at d1
  have t1 := s1.put 1 (.int .i64 v1)
  simp only [List.setIfInBounds_toArray, List.set_cons_zero, List.set_cons_succ] at t1
  have HS2 := Lib.hid t1
  clear s1 t1 HS1
  go_wp2_with fail
  try clear d1 f1
  with_reducible refine (next_ok w _ (HW.out.below HS2.out.bel) g w1.heap.size c1 4 v2 A1 l' #[.int .i64 v0, .int .i64 v1, .int .u32 0, .int .u32 0, .int .u32 0, .int .u32 0] 4 HS2.out y3 hc1 (by have := HL.out; omega) (by omega) (by have := HL.out; omega) R2.out).mono ?_
  rintro e u2 ⟨rfl, s2⟩
  replace s2 : RS w g w1.heap.size A1 c1 l' 8 #[.int .i64 v0, .int .i64 v1, .int .u32 0, .int .u32 0, .int .u32 0, .int .u32 0] u2 := s2
  have d2 := s2.outB.cell 2
  have f2 := s2.outB.frozen 2
  simp only [List.getElem?_toArray, List.getElem?_cons_zero, List.getElem?_cons_succ] at d2
  have t2 := s2.put 2 (.int .u32 v2)
  simp only [List.setIfInBounds_toArray, List.set_cons_zero, List.set_cons_succ] at t2
  have HS3 := Lib.hid t2
  clear s2 t2 HS2
  go_wp2_with fail
  try clear d2 f2
  with_reducible refine (next_ok w _ (HW.out.below HS3.out.bel) g w1.heap.size c1 8 v3 A1 l' #[.int .i64 v0, .int .i64 v1, .int .u32 v2, .int .u32 0, .int .u32 0, .int .u32 0] 4 HS3.out y3 hc1 (by have := HL.out; omega) (by omega) (by have := HL.out; omega) R3.out).mono ?_
  rintro e u3 ⟨rfl, s3⟩
  replace s3 : RS w g w1.heap.size A1 c1 l' 12 #[.int .i64 v0, .int .i64 v1, .int .u32 v2, .int .u32 0, .int .u32 0, .int .u32 0] u3 := s3
  have d3 := s3.outB.cell 3
  have f3 := s3.outB.frozen 3
  simp only [List.getElem?_toArray, List.getElem?_cons_zero, List.getElem?_cons_succ] at d3
  have t3 := s3.put 3 (.int .u32 v3)
  simp only [List.setIfInBounds_toArray, List.set_cons_zero, List.set_cons_succ] at t3
  have HS4 := Lib.hid t3
  clear s3 t3 HS3
  go_wp2_with fail
  try clear d3 f3
  with_reducible refine (next_ok w _ (HW.out.below HS4.out.bel) g w1.heap.size c1 12 v4 A1 l' #[.int .i64 v0, .int .i64 v1, .int .u32 v2, .int .u32 v3, .int .u32 0, .int .u32 0] 4 HS4.out y3 hc1 (by have := HL.out; omega) (by omega) (by have := HL.out; omega) R4.out).mono ?_
  rintro e u4 ⟨rfl, s4⟩
  replace s4 : RS w g w1.heap.size A1 c1 l' 16 #[.int .i64 v0, .int .i64 v1, .int .u32 v2, .int .u32 v3, .int .u32 0, .int .u32 0] u4 := s4
  have d4 := s4.outB.cell 4
  have f4 := s4.outB.frozen 4
  simp only [List.getElem?_toArray, List.getElem?_cons_zero, List.getElem?_cons_succ] at d4
  have t4 := s4.put 4 (.int .u32 v4)
  simp only [List.setIfInBounds_toArray, List.set_cons_zero, List.set_cons_succ] at t4
  have HS5 := Lib.hid t4
  clear s4 t4 HS4
  go_wp2_with fail
  try clear d4 f4
  with_reducible refine (next_ok w _ (HW.out.below HS5.out.bel) g w1.heap.size c1 16 v5 A1 l' #[.int .i64 v0, .int .i64 v1, .int .u32 v2, .int .u32 v3, .int .u32 v4, .int .u32 0] 4 HS5.out y3 hc1 (by have := HL.out; omega) (by omega) (by have := HL.out; omega) R5.out).mono ?_
  rintro e u5 ⟨rfl, s5⟩
  replace s5 : RS w g w1.heap.size A1 c1 l' 20 #[.int .i64 v0, .int .i64 v1, .int .u32 v2, .int .u32 v3, .int .u32 v4, .int .u32 0] u5 := s5
  have d5 := s5.outB.cell 5
  have f5 := s5.outB.frozen 5
  simp only [List.getElem?_toArray, List.getElem?_cons_zero, List.getElem?_cons_succ] at d5
  have t5 := s5.put 5 (.int .u32 v5)
  simp only [List.setIfInBounds_toArray, List.set_cons_zero, List.set_cons_succ] at t5
  have HS6 := Lib.hid t5
  have c0 := (s5.outB).cell 0
  have c1 := (s5.outB).cell 1
  have c2 := (s5.outB).cell 2
  have c3 := (s5.outB).cell 3
  have c4 := (s5.outB).cell 4
  have c5 := (s5.outB).cell 5
  simp only [List.getElem?_toArray, List.getElem?_cons_zero, List.getElem?_cons_succ] at c0 c1 c2 c3 c4 c5
  have ce0 := (s5.errB).cell 0
  simp only [List.getElem?_toArray, List.getElem?_cons_zero, List.getElem?_cons_succ] at ce0
  have fr0 := s5.outB.frozen 0
  have fr1 := s5.outB.frozen 1
  have fr2 := s5.outB.frozen 2
  have fr3 := s5.outB.frozen 3
  have fr4 := s5.outB.frozen 4
  have fr5 := s5.outB.frozen 5
  have fe := s5.errB.frozen 0
  clear d5 f5
  clear s5 t5 HS5
  have z := HS6.out.outB
  have z' := HS6.out.errB
  go_wp2_with fail
  have zz := ((((((HS6.out.put 0 (.int .i64 v0)).put 1 (.int .i64 v1)).put 2 (.int .u32 v2)).put 3 (.int .u32 v3)).put 4 (.int .u32 v4)).put 5 (.int .u32 v5))
  simp only [List.setIfInBounds_toArray, List.set_cons_zero, List.set_cons_succ] at zz
  have zf := zz.outB.far (p := ⟨w.heap.size + 1, 0, none⟩) (by show w.heap.size ≠ w.heap.size + 1; omega) (.int .i64 0)
  have ze := zz.errB.set 0 (.int .i64 0)
  have bz := zz.bel.setCell (p := ⟨w.heap.size + 1, 0, none⟩) (by show w.heap.size ≤ w.heap.size + 1; omega) (.int .i64 0)
  refine leaves_cons (f := 139) (args := #[.pointer (some ⟨w.heap.size, 0, none⟩), .pointer (some ⟨w.heap.size + 1, 0, none⟩)]) (by simp) (by simp [go_sem]) ?_
  with_reducible refine (catch_idle w.heap.size (w.heap.size + 1) _).mono ?_
  rintro e u' w'' ⟨rfl, rfl, rfl⟩
  clear zz z z' c0 c2 c3 c4 c5
  simp only [List.setIfInBounds_toArray, List.set_cons_zero] at ze
  have d0 := (zf).cell 0
  have d1 := (zf).cell 1
  have d2 := (zf).cell 2
  have d3 := (zf).cell 3
  have d4 := (zf).cell 4
  have d5 := (zf).cell 5
  simp only [List.getElem?_toArray, List.getElem?_cons_zero, List.getElem?_cons_succ] at d0 d1 d2 d3 d4 d5
  have h0 := (ze).cell 0
  simp only [List.getElem?_toArray, List.getElem?_cons_zero, List.getElem?_cons_succ] at h0
  clear zf ze
  generalize (World.setCell _ (⟨w.heap.size + 1, 0, none⟩ : Addr) (.int .i64 0)) = wz at *
  simp [Leaves, settle, results, Tryz.results114, go_sem, d0, d1, d2, d3, d4, d5, h0]
  exact bz

end Go.Proofs.YtlanfceilajifaaGreatDoor
/- entry.Each: what is handed to the loop's body, in order; and the document's list. -/
namespace Go.Proofs.YtlanfceilajifaaGreatDoor
set_option linter.unusedVariables false
set_option linter.unusedSimpArgs false
open Go.RowKit Go.Shelf
attribute [local go_sem] Oper.semAt_some
set_option maxRecDepth 100000

/-- the entry at a place -/
def entE (l : List UInt8) (i : Nat) : Value := readE (l.drop (i * 20))
def entEs (l : List UInt8) (i : Nat) : Array Value := #[.int .i64 i, entE l i]
theorem entE_eq (l : List UInt8) (i : Nat) : entE l i = .agg #[.int .i64 (fld (l.drop (i * 20)) 0 2), .int .i64 (fld (l.drop (i * 20)) 2 2), .int .u32 (fld (l.drop (i * 20)) 4 4), .int .u32 (fld (l.drop (i * 20)) 8 4), .int .u32 (fld (l.drop (i * 20)) 12 4), .int .u32 (fld (l.drop (i * 20)) 16 4)] := rfl
theorem rd_drop {w : World} {B : Nat} {A : Option Addr} {l : List UInt8} (h : Rd w B A (l.map b8)) (k : Nat) (hk : k < l.length) : Rd w B (A.map (fun x => x.add k)) ((l.drop k).map b8) := by
  have := h.cut k (l.length - k) (by omega) (by simp; omega)
  rw [List.take_of_length_le (by simp)] at this
  rwa [List.map_drop]

set_option maxHeartbeats 2000000 in
theorem eeach1_in (n : Nat) (hn : 1 ≤ n) (lb Ba n₀ : Nat) (l : List UInt8) (A : Option Addr) (c : Nat) (hlc : l.length ≤ c) (hc : c ≤ 9223372036854775807) (hl : l.length ≤ 1048576)
    (J Jx : List Nat → World → Prop) (W : World) (hW : AbidesFrom W.heap.size J)
    (hY : ∀ pre x W, J pre W → pre.length < l.length / 20 → YieldAt Fence.wide (n - 1) Tryz.prog lb (entEs l x) W fun e W' =>
      (e = .returned (.bool true) ∧ J (pre ++ [x]) W' ∧ Below n₀ W W') ∨ (e = .returned (.bool false) ∧ Jx (pre ++ [x]) W'))
    (hw : ∀ W', Below n₀ W W' → WidthsAt W') (hBa : Boxed W Ba 25 (.slice A l.length c)) (hr : Rd W n₀ A (l.map b8)) (h2 : Ba < n₀) (hn0 : n₀ ≤ W.heap.size) (h0 : J [] W) :
    CallsIn Fence.wide n Tryz.prog 113 #[.func (.yield lb) #[] #[], .pointer (some ⟨Ba, 0, none⟩)] W fun e W' => (∃ v, e = .returned v) ∧
      ((∃ ys, ys = List.range (l.length / 20) ∧ J ys W') ∨ (∃ pre, (∃ j, j ≤ l.length / 20 ∧ pre = List.range j) ∧ Jx pre W')) := by
  have ca := hBa.cell
  have hNl : l.length / 20 * 20 ≤ l.length := Nat.div_mul_le_self _ _
  refine callsIn_of_wp Tryz.func113 rfl trivial ?_ rfl
  simp only [Tryz.ntmps113, List.size_toArray, List.length_cons, List.length_nil, Nat.reduceAdd, Nat.reduceSub, Array.replicate_succ, Array.replicate_zero, List.push_toArray, List.append_toArray, List.nil_append, List.cons_append]
  refine scope_in ?_
  gi_wp2_with fail
  refine wpIn_label ?_
  gi_wp2
  gi_loopw [9] (fun i wr => ∃ j : Nat, j ≤ l.length / 20 ∧ i = .int .i64 j ∧ J (List.range j) wr ∧ Below n₀ W wr) (fun i _ => l.length / 20 - (intOf i).toNat)
  case atStart => exact ⟨0, Nat.zero_le _, rfl, h0, Below.refl _ _⟩
  case round =>
    obtain ⟨j, hj, rfl, hJ, hb⟩ := hrel
    have ca' := (boxed_below hBa hb h2).cell
    clear ca
    by_cases hlt : j < l.length / 20
    · have hjq : j * 20 + 20 ≤ l.length := by omega
      have hrd := rd_drop ((hr.below hb).more (Nat.le_trans hn0 hb.size)) (j * 20) (by omega)
      have hlen : (l.drop (j * 20)).length = l.length - j * 20 := by simp
      have hcall := fun cc hcc hcc2 => eread_ok (l.drop (j * 20)) (A.map (fun x => x.add (j * 20))) cc wr (hw wr hb) hrd hcc hcc2 (by rw [hlen]; omega)
      rw [hlen] at hcall
      have hy0 := hY (List.range j) j
      have hE : entEs l j = #[.int .i64 j, .agg #[.int .i64 (fld (l.drop (j * 20)) 0 2), .int .i64 (fld (l.drop (j * 20)) 2 2), .int .u32 (fld (l.drop (j * 20)) 4 4), .int .u32 (fld (l.drop (j * 20)) 8 4), .int .u32 (fld (l.drop (j * 20)) 12 4), .int .u32 (fld (l.drop (j * 20)) 16 4)]] := rfl
      rw [hE] at hy0
      unfold readE at hcall
      generalize fld (l.drop (j * 20)) 0 2 = v0 at *
      generalize fld (l.drop (j * 20)) 2 2 = v1 at *
      generalize fld (l.drop (j * 20)) 4 4 = v2 at *
      generalize fld (l.drop (j * 20)) 8 4 = v3 at *
      generalize fld (l.drop (j * 20)) 12 4 = v4 at *
      generalize fld (l.drop (j * 20)) 16 4 = v5 at *
      have CC := Lib.hid hcall
      have HG := Lib.hid hy0
      have hnc : ¬ c = j * 20 := by omega
      clear hcall hlen hrd hy0 hE
      gi_wp2_with fail
      refine ⟨trivial, ?_⟩
      refine (callsIn_wide.2 (CC.out _ (by omega) (by omega))).mono ?_
      rintro e w2 ⟨rfl, b2⟩
      obtain ⟨fn, tmps, assign, body, hy, hR⟩ := HG.out _ (hW _ _ _ none hJ (below_none (balloc b2 (.cells #[.int .i64 v0, .int .i64 v1, .int .u32 v2, .int .u32 v3, .int .u32 v4, .int .u32 v5] 57))) (by simp)) (by simpa using hlt)
      clear HG CC
      gi_wp2
      refine hR.mono ?_
      rintro e W3 (⟨rfl, hJ3, hk3⟩ | ⟨rfl, hJx3⟩)
      · gi_wp2
        go_roundw
        case rel => exact ⟨j + 1, by omega, by go_num, by rw [List.range_succ]; exact hJ3, hb.trans (((b2.mono (Nat.le_trans hn0 hb.size)).alloc (Nat.le_trans hn0 (Nat.le_trans hb.size b2.size)) _).trans hk3)⟩
        case measure => simp [intOf]; omega
      · gi_wp2
        rw [Exit.noGoto_normal]
        go_end0
        exact ⟨⟨_, rfl⟩, .inr ⟨_, ⟨j + 1, by omega, (List.range_succ).symm⟩, hJx3⟩⟩
    · obtain rfl : j = l.length / 20 := by omega
      gi_wp2_with fail
      rw [Exit.noGoto_normal]
      go_end0
      exact ⟨⟨_, rfl⟩, .inl ⟨_, rfl, hJ⟩⟩

/-- what Each hands back: a function, its bytes in a box -/
def IsEEach (w : World) (l : List UInt8) (lb : Array Value) : Prop :=
  ∃ Ba A c, lb = #[.pointer (some ⟨Ba, 0, none⟩)] ∧ Boxed w Ba 25 (.slice A l.length c) ∧ l.length ≤ c ∧ c ≤ maxLen ∧ Rd w w.heap.size A (l.map b8)
theorem IsEEach.below {w w' : World} {l : List UInt8} {lb : Array Value} (h : IsEEach w l lb) (hb : Below w.heap.size w w') : IsEEach w' l lb := by
  obtain ⟨Ba, A, c, e, h2, h3, h4, h5⟩ := h
  exact ⟨Ba, A, c, e, boxed_below h2 hb h2.lt, h3, h4, (h5.below hb).more hb.size⟩
set_option maxHeartbeats 1000000 in
theorem eeach_any (l : List UInt8) (A : Option Addr) (c : Nat) (w : World) (h : Rd w w.heap.size A (l.map b8)) (hl : l.length ≤ 1048576) :
    Calls Tryz.prog 87 #[.slice A l.length c] w fun e w' => ∃ lb, e = .returned (.func (.func 113) #[] lb) ∧ IsEEach w' l lb ∧ Below w.heap.size w w' := by
  have hmf : ∀ (fn : Fn) (first cap : Array Value) (w : World), (Instr.makeFunc fn first cap).run Tryz.prog w = .ok (.func fn first cap) w := fun _ _ _ _ => rfl
  go_enter Tryz.func87, Tryz.ntmps87
  go_wp2_with (go_at_call 112; refine (clone_any l _ rfl _ _ w.heap.size _ h hl (Nat.le_refl _)).mono ?_; rintro e w1 ⟨A1, c1, rfl, hc1, hm1, hr1, hb1, _⟩)
  go_ret
  exact ⟨_, rfl, ⟨_, A1, c1, rfl, Boxed.new w1 _ _, hc1, hm1, (hr1.alloc (Nat.le_refl _) _).more (by simp)⟩, balloc hb1 _⟩
theorem eeach_stops (n : Nat) (hn : 1 ≤ n) (n₀ : Nat) (l : List UInt8) (lb : Array Value) (w : World) (hl : l.length ≤ 1048576) (w0 : World) (hw : WidthsAt w0) (h0 : IsEEach w0 l lb) (hb : Below w0.heap.size w0 w) (hn0 : w0.heap.size ≤ n₀) (hn1 : n₀ ≤ w.heap.size) :
    SeqStopsK Fence.wide n Tryz.prog 113 lb (entEs l) (Below n₀) (fun ys => ys = List.range (l.length / 20)) (fun pre => ∃ j, j ≤ l.length / 20 ∧ pre = List.range j) (l.length / 20) w := fun lp J Jx W hW hA _ hY hJ0 => by
  have hb2 : Below w0.heap.size w0 W := bnext hb hW
  obtain ⟨Ba, A, c, rfl, h2, h3, h4, h5⟩ := h0
  exact eeach1_in n hn lp Ba n₀ l A c h3 (by unfold maxLen at h4; omega) hl J Jx W hA hY (fun W' h => hw.below (hb2.trans (h.mono hn0))) (boxed_below h2 hb2 h2.lt) ((h5.below hb2).more hn0) (Nat.lt_of_lt_of_le h2.lt hn0) (Nat.le_trans hn1 hW.size) hJ0

end Go.Proofs.YtlanfceilajifaaGreatDoor
/- The document's Read and Each of entries. -/
namespace Go.Proofs.YtlanfceilajifaaGreatDoor
set_option linter.unusedVariables false
set_option linter.unusedSimpArgs false
open Go.RowKit
set_option maxRecDepth 100000

theorem refRead_fld (l : List UInt8) (A : Option Addr) (c : Nat) (hlc : l.length ≤ c) (hcm : c ≤ 9223372036854775807) (p k : Nat) (hk : k = 2 ∨ k = 4) (h : p + k ≤ l.length) (B : Nat) (W : World) (hr : Rd W B A (l.map b8)) :
    Calls Tryz.prog 143 #[.slice A l.length c, .int .i64 p, .int .i64 k] W fun e w' => e = .returned (.tuple #[.int .u32 (fld l p k), .int .i64 0]) ∧ W = w' := by
  have := refRead_any l l.length rfl A c B W hr hlc hcm p k
  rw [rdF_fld l p k hk h] at this
  exact this

set_option maxHeartbeats 1000000 in
theorem refERead_ok (l : List UInt8) (A : Option Addr) (c : Nat) (w : World) (h : Rd w w.heap.size A (l.map b8)) (hlc : l.length ≤ c) (hcm : c ≤ 9223372036854775807) (hl : 20 ≤ l.length) :
    Calls Tryz.prog 115 #[.slice A l.length c] w fun e w' => e = .returned (.tuple #[readE l, .int .i64 0]) ∧ Below w.heap.size w w' := by
  have hr := h.alloc (Nat.le_refl _) (.cells #[.int .i64 0, .int .i64 0, .int .u32 0, .int .u32 0, .int .u32 0, .int .u32 0] 57)
  have C0 := Lib.hid (refRead_fld l A c hlc hcm 0 2 (by omega) (by omega) _ _ hr)
  have C1 := Lib.hid (refRead_fld l A c hlc hcm 2 2 (by omega) (by omega) _ _ hr)
  have C2 := Lib.hid (refRead_fld l A c hlc hcm 4 4 (by omega) (by omega) _ _ hr)
  have C3 := Lib.hid (refRead_fld l A c hlc hcm 8 4 (by omega) (by omega) _ _ hr)
  have C4 := Lib.hid (refRead_fld l A c hlc hcm 12 4 (by omega) (by omega) _ _ hr)
  have C5 := Lib.hid (refRead_fld l A c hlc hcm 16 4 (by omega) (by omega) _ _ hr)
  unfold readE
  have hf0 := fld_lt l 0 2
  generalize fld l 0 2 = v0 at *
  have hf1 := fld_lt l 2 2
  generalize fld l 2 2 = v1 at *
  have hf2 := fld_lt l 4 4
  generalize fld l 4 4 = v2 at *
  have hf3 := fld_lt l 8 4
  generalize fld l 8 4 = v3 at *
  have hf4 := fld_lt l 12 4
  generalize fld l 12 4 = v4 at *
  have hf5 := fld_lt l 16 4
  generalize fld l 16 4 = v5 at *
  have hv0 : IntKind.i64.wrap (v0 : Int) = v0 := IntWalk.i64_in _ ⟨by omega, by omega⟩
  have hv1 : IntKind.i64.wrap (v1 : Int) = v1 := IntWalk.i64_in _ ⟨by omega, by omega⟩
  clear hr h
  go_enter Tryz.func115, Tryz.ntmps115
  go_wp2_with fail
  refine C0.out.mono ?_
  rintro e w' ⟨rfl, rfl⟩
  go_wp2_with fail
  refine C1.out.mono ?_
  rintro e w' ⟨rfl, rfl⟩
  go_wp2_with fail
  refine C2.out.mono ?_
  rintro e w' ⟨rfl, rfl⟩
  go_wp2_with fail
  refine C3.out.mono ?_
  rintro e w' ⟨rfl, rfl⟩
  go_wp2_with fail
  refine C4.out.mono ?_
  rintro e w' ⟨rfl, rfl⟩
  go_wp2_with fail
  refine C5.out.mono ?_
  rintro e w' ⟨rfl, rfl⟩
  go_wp2_with fail
  refine bodyPost_ret (v := .tuple #[.agg #[.int .i64 v0, .int .i64 v1, .int .u32 v2, .int .u32 v3, .int .u32 v4, .int .u32 v5], .int .i64 0]) (by simp [results, Tryz.results115, go_sem]) rfl ⟨rfl, ?_⟩
  exact balloc (Below.refl _ _) _

set_option maxHeartbeats 1000000 in
theorem refERead_bad (l : List UInt8) (A : Option Addr) (c : Nat) (w : World) (hl : l.length < 20) :
    Calls Tryz.prog 115 #[.slice A l.length c] w fun e w' => e = .returned (.tuple #[.agg #[.int .i64 0, .int .i64 0, .int .u32 0, .int .u32 0, .int .u32 0, .int .u32 0], .int .i64 130]) ∧ Below w.heap.size w w' := by
  go_enter Tryz.func115, Tryz.ntmps115
  go_wp2_with fail
  refine bodyPost_ret (v := .tuple #[.agg #[.int .i64 0, .int .i64 0, .int .u32 0, .int .u32 0, .int .u32 0, .int .u32 0], .int .i64 130]) (by simp [results, Tryz.results115, go_sem]) rfl ⟨rfl, ?_⟩
  exact balloc (Below.refl _ _) _

theorem ent_info : (Tryz.prog.info? 57).map (fun i => (i.zero, i.size, i.bytes)) = some (some (.agg #[.int .i64 0, .int .i64 0, .int .u32 0, .int .u32 0, .int .u32 0, .int .u32 0]), 6, 32) := by kernel_rfl
/-- an entry's cells -/
def entL (l : List UInt8) (i : Nat) : List Value := [.int .i64 (fld (l.drop (i * 20)) 0 2), .int .i64 (fld (l.drop (i * 20)) 2 2), .int .u32 (fld (l.drop (i * 20)) 4 4), .int .u32 (fld (l.drop (i * 20)) 8 4), .int .u32 (fld (l.drop (i * 20)) 12 4), .int .u32 (fld (l.drop (i * 20)) 16 4)]
def entA (l : List UInt8) (i : Nat) : Array Value := #[.int .i64 (fld (l.drop (i * 20)) 0 2), .int .i64 (fld (l.drop (i * 20)) 2 2), .int .u32 (fld (l.drop (i * 20)) 4 4), .int .u32 (fld (l.drop (i * 20)) 8 4), .int .u32 (fld (l.drop (i * 20)) 12 4), .int .u32 (fld (l.drop (i * 20)) 16 4)]
def entC (l : List UInt8) (j : Nat) : List Value := (List.range j).flatMap (entL l)
theorem entC_succ (l : List UInt8) (j : Nat) : entC l (j + 1) = entC l j ++ entL l j := by simp [entC, List.range_succ]
theorem entC_len (l : List UInt8) (j : Nat) : (entC l j).length = j * 6 := by
  induction j with
  | zero => rfl
  | succ j ih => rw [entC_succ, List.length_append, ih]; simp [entL]; omega
theorem entC_get (l : List UInt8) (N : Nat) : ∀ i, i < N → ∀ q, q < 6 → (entC l N)[i * 6 + q]? = (entL l i)[q]? := by
  induction N with
  | zero => intro i hi; omega
  | succ N ih =>
    intro i hi q hq
    rw [entC_succ]
    by_cases h : i < N
    · rw [List.getElem?_append_left (by rw [entC_len]; omega)]
      exact ih i h q hq
    · obtain rfl : i = N := by omega
      rw [List.getElem?_append_right (by rw [entC_len]; omega), entC_len, Nat.add_sub_cancel_left]

set_option maxHeartbeats 2000000 in
theorem refEEach_new (l : List UInt8) (A : Option Addr) (c : Nat) (w : World) (h : Rd w w.heap.size A (l.map b8)) (hlc : l.length ≤ c) (hcm : c ≤ 9223372036854775807) (hl : l.length ≤ 1048576) :
    Calls Tryz.prog 91 #[.slice A l.length c] w fun e w' => ∃ A' c', e = .returned (.slice A' (l.length / 20) c') ∧ l.length / 20 ≤ c' ∧ c' ≤ maxLen ∧ Rd w' w'.heap.size A' (entC l (l.length / 20)) ∧ Below w.heap.size w w' ∧ (∀ a, A' = some a → w.heap.size ≤ a.block) := by
  obtain ⟨i0, hi0, hz0, hz1, hz2⟩ := info_parts ent_info
  have HR := Lib.hid h
  clear h
  go_enter Tryz.func91, Tryz.ntmps91
  go_wp2_with fail
  go_loopw [0, 3] (fun b v wr => ∃ (j : Nat) (Aj : Option Addr) (cj : Nat), j ≤ l.length / 20 ∧ b = .slice Aj (l.length - j * 20) cj ∧ l.length - j * 20 ≤ cj ∧ cj ≤ 9223372036854775807 ∧ Rd w w.heap.size Aj ((l.drop (j * 20)).map b8) ∧ wr.ownsRow w.heap.size 57 6 v j (entC l j) ∧ Below w.heap.size w wr) (fun b _ _ => match b with | .slice _ n _ => n | _ => 0)
  case atStart => exact ⟨0, A, c, Nat.zero_le _, by simp, by omega, hcm, by simpa using HR.out, by simpa [entC] using World.ownsRow_nil _ _ _ _, Below.refl _ _⟩
  case round =>
    obtain ⟨j, Aj, cj, hj, rfl, hlj, hcj, hrj, hown, hb⟩ := hrel
    by_cases hlt : j < l.length / 20
    · have hlen : (l.drop (j * 20)).length = l.length - j * 20 := by simp
      have hcall := refERead_ok (l.drop (j * 20)) Aj cj wr ((hrj.below hb).more hb.size) (by rw [hlen]; exact hlj) hcj (by rw [hlen]; omega)
      rw [hlen] at hcall
      unfold readE at hcall
      have hS := entC_succ l j
      unfold entL at hS
      generalize fld (l.drop (j * 20)) 0 2 = v0 at *
      generalize fld (l.drop (j * 20)) 2 2 = v1 at *
      generalize fld (l.drop (j * 20)) 4 4 = v2 at *
      generalize fld (l.drop (j * 20)) 8 4 = v3 at *
      generalize fld (l.drop (j * 20)) 12 4 = v4 at *
      generalize fld (l.drop (j * 20)) 16 4 = v5 at *
      have CC := Lib.hid hcall
      have HS := Lib.hid hS
      have HJ := Lib.hid hrj
      have HL := Lib.hid hlen
      have hj20 : j * 20 + 20 ≤ l.length := by omega
      clear hcall hS hrj hlen
      go_wp2_with fail
      refine CC.out.mono ?_
      rintro e w2 ⟨rfl, b2⟩
      have hn2 : Rd ((w2.alloc (.cells #[.int .i64 v0, .int .i64 v1, .int .u32 v2, .int .u32 v3, .int .u32 v4, .int .u32 v5] 57)).alloc (.cells #[.int .i64 v0, .int .i64 v1, .int .u32 v2, .int .u32 v3, .int .u32 v4, .int .u32 v5] 57)) (w2.heap.size + 1 + 1) (some ⟨w2.heap.size + 1, 0, none⟩) [.int .i64 v0, .int .i64 v1, .int .u32 v2, .int .u32 v3, .int .u32 v4, .int .u32 v5] := by
        have := Rd.newL (w2.alloc (.cells #[.int .i64 v0, .int .i64 v1, .int .u32 v2, .int .u32 v3, .int .u32 v4, .int .u32 v5] 57)) 57 #[.int .i64 v0, .int .i64 v1, .int .u32 v2, .int .u32 v3, .int .u32 v4, .int .u32 v5] _ rfl
        rwa [World.size_alloc] at this
      have HN := Lib.hid hn2
      have hsz : w.heap.size ≤ w2.heap.size := Nat.le_trans hb.size b2.size
      have ho2 := Lib.hid (((own_below hown b2).alloc (.cells #[.int .i64 v0, .int .i64 v1, .int .u32 v2, .int .u32 v3, .int .u32 v4, .int .u32 v5] 57)).alloc (.cells #[.int .i64 v0, .int .i64 v1, .int .u32 v2, .int .u32 v3, .int .u32 v4, .int .u32 v5] 57))
      have hb2 : Below w.heap.size w ((w2.alloc (.cells #[.int .i64 v0, .int .i64 v1, .int .u32 v2, .int .u32 v3, .int .u32 v4, .int .u32 v5] 57)).alloc (.cells #[.int .i64 v0, .int .i64 v1, .int .u32 v2, .int .u32 v3, .int .u32 v4, .int .u32 v5] 57)) := balloc (balloc (bnext hb b2) _) _
      clear hn2
      by_cases hcap : cj = 20
      · subst hcap
        obtain ⟨hln⟩ : Nonempty (l.length - j * 20 = 20) := ⟨by omega⟩
        have HLN := Lib.hid hln
        clear hln
        go_wp2_with (at_builtin; refine wpList_append_rd rfl _ _ 33 rfl w.heap.size 57 i0 _ 6 32 Tryz.underlying33 hi0 hz0 hz1 hz2 rfl (by decide) _ j _ rfl ho2.out 1 1 [.int .i64 v0, .int .i64 v1, .int .u32 v2, .int .u32 v3, .int .u32 v4, .int .u32 v5] rfl rfl HN.out (by simp [Value.oneCell']) (by simp only [maxLen]; omega) (by omega) (by simp; omega) ?_; intro v' w3 ho3 hg3 ha3)
        have e0 : l.length - (j + 1) * 20 = 0 := by have := HLN.out; omega
        refine ⟨⟨j + 1, Aj, 0, by omega, by rw [e0], by omega, by omega, ?_, by rw [HS.out]; exact ho3, hb2.grown hg3 hb2.size (own_base ho2.out)⟩, ?_⟩
        · rw [List.drop_eq_nil_of_le (by omega)]; exact Rd.nil
        · show 0 < l.length - j * 20; omega
      · have hc20 : 20 ≤ cj := by omega
        go_wp2_with (at_builtin; refine wpList_append_rd rfl _ _ 33 rfl w.heap.size 57 i0 _ 6 32 Tryz.underlying33 hi0 hz0 hz1 hz2 rfl (by decide) _ j _ rfl ho2.out 1 1 [.int .i64 v0, .int .i64 v1, .int .u32 v2, .int .u32 v3, .int .u32 v4, .int .u32 v5] rfl rfl HN.out (by simp [Value.oneCell']) (by simp only [maxLen]; omega) (by omega) (by simp; omega) ?_; intro v' w3 ho3 hg3 ha3)
        refine ⟨⟨j + 1, _, cj - 20, by omega, by rw [show l.length - (j + 1) * 20 = l.length - j * 20 - 20 by omega], by omega, by omega, ?_, by rw [HS.out]; exact ho3, hb2.grown hg3 hb2.size (own_base ho2.out)⟩, ?_⟩
        · by_cases hm : 20 < l.length - j * 20
          · have := rd_drop HJ.out 20 (by rw [HL.out]; exact hm)
            rw [List.drop_drop, show j * 20 + 20 = (j + 1) * 20 by omega] at this
            exact this
          · rw [List.drop_eq_nil_of_le (by omega)]; exact Rd.nil
        · show l.length - j * 20 - 20 < l.length - j * 20; omega
    · have hz : l.length - j * 20 < 20 := by omega
      obtain rfl : j = l.length / 20 := by omega
      have hba := own_base hown
      obtain ⟨A', c', rfl, h1, h2, h3⟩ := own_shapeN hown
      go_wp2_with fail
      go_ret
      exact ⟨A', c', rfl, h1, h2, h3, hb, fun a ha => hba a.block (by rw [ha]; rfl)⟩
theorem refEEach_any (l : List UInt8) (A : Option Addr) (c : Nat) (w : World) (h : Rd w w.heap.size A (l.map b8)) (hlc : l.length ≤ c) (hcm : c ≤ 9223372036854775807) (hl : l.length ≤ 1048576) :
    Calls Tryz.prog 91 #[.slice A l.length c] w fun e w' => ∃ A' c', e = .returned (.slice A' (l.length / 20) c') ∧ l.length / 20 ≤ c' ∧ c' ≤ maxLen ∧ Rd w' w'.heap.size A' (entC l (l.length / 20)) ∧ Below w.heap.size w w' :=
  (refEEach_new l A c w h hlc hcm hl).mono fun _ _ ⟨A', c', e, h1, h2, h3, h4, _⟩ => ⟨A', c', e, h1, h2, h3, h4⟩
end Go.Proofs.YtlanfceilajifaaGreatDoor
/- EntryHolds: the walk. -/
namespace Go.Proofs.YtlanfceilajifaaGreatDoor
set_option linter.unusedVariables false
set_option linter.unusedSimpArgs false
open Go.RowKit
set_option maxRecDepth 100000

/-- what Bytes answers -/
def bytF (f t : Int) (a m x k : Nat) : List UInt8 × Int := if 0 ≤ f ∧ f ≤ 65535 ∧ 0 ≤ t ∧ t ≤ 65535 then (entB f.toNat t.toNat a m x k, 0) else ([], 2)
theorem bs_inj (k n m : Nat) (hn : n < 256 ^ k) (hm : m < 256 ^ k) (h : bs k n = bs k m) : n = m := by
  have h1 := be_bs k n
  have h2 := be_bs k m
  rw [h, h2, Nat.mod_eq_of_lt hn, Nat.mod_eq_of_lt hm] at h1
  exact h1.symm
theorem entB_inj (f t a m x k f' t' a' m' x' k' : Nat) (hf : f < 65536) (ht : t < 65536) (ha : a < 4294967296) (hm : m < 4294967296) (hx : x < 4294967296) (hk : k < 4294967296)
    (hf' : f' < 65536) (ht' : t' < 65536) (ha' : a' < 4294967296) (hm' : m' < 4294967296) (hx' : x' < 4294967296) (hk' : k' < 4294967296)
    (h : entB f t a m x k = entB f' t' a' m' x' k') : f = f' ∧ t = t' ∧ a = a' ∧ m = m' ∧ x = x' ∧ k = k' := by
  unfold entB at h
  obtain ⟨h1, h⟩ := List.append_inj h (by simp [bs_length])
  obtain ⟨h2, h⟩ := List.append_inj h (by simp [bs_length])
  obtain ⟨h3, h⟩ := List.append_inj h (by simp [bs_length])
  obtain ⟨h4, h⟩ := List.append_inj h (by simp [bs_length])
  obtain ⟨h5, h6⟩ := List.append_inj h (by simp [bs_length])
  exact ⟨bs_inj 2 _ _ (by omega) (by omega) h1, bs_inj 2 _ _ (by omega) (by omega) h2, bs_inj 4 _ _ (by omega) (by omega) h3, bs_inj 4 _ _ (by omega) (by omega) h4, bs_inj 4 _ _ (by omega) (by omega) h5, bs_inj 4 _ _ (by omega) (by omega) h6⟩
theorem wrap_ne (n : Int) (h0 : 0 < n) (h1 : n < 1000) : (wrap64 n == 0) = false := by
  rw [IntWalk.wrap64_in n ⟨by omega, by omega⟩]
  simp
  omega
/-- two entries of the same bytes -/
theorem bytF_same (f t f' t' : Int) (a m x k a' m' x' k' : Nat) (ha : a < 4294967296) (hm : m < 4294967296) (hx : x < 4294967296) (hk : k < 4294967296)
    (ha' : a' < 4294967296) (hm' : m' < 4294967296) (hx' : x' < 4294967296) (hk' : k' < 4294967296) :
    (((bytF f t a m x k).2 = 0 ∧ (bytF f' t' a' m' x' k').2 = 0 ∧ ((bytF f t a m x k).1 == (bytF f' t' a' m' x' k').1) = (f == f' && t == t' && (a : Int) == a' && (m : Int) == m' && (x : Int) == x' && (k : Int) == k')) ∨
      (wrap64 ((bytF f t a m x k).2 + (bytF f' t' a' m' x' k').2) == 0) = false) := by
  by_cases h : 0 ≤ f ∧ f ≤ 65535 ∧ 0 ≤ t ∧ t ≤ 65535
  · by_cases h' : 0 ≤ f' ∧ f' ≤ 65535 ∧ 0 ≤ t' ∧ t' ≤ 65535
    · refine .inl ⟨by simp [bytF, h], by simp [bytF, h'], ?_⟩
      unfold bytF
      rw [if_pos h, if_pos h']
      rw [Bool.eq_iff_iff]
      simp only [beq_iff_eq, Bool.and_eq_true]
      constructor
      · intro e
        obtain ⟨e1, e2, e3, e4, e5, e6⟩ := entB_inj _ _ _ _ _ _ _ _ _ _ _ _ (by omega) (by omega) ha hm hx hk (by omega) (by omega) ha' hm' hx' hk' e
        omega
      · rintro ⟨⟨⟨⟨⟨e1, e2⟩, e3⟩, e4⟩, e5⟩, e6⟩
        obtain rfl : a = a' := by omega
        obtain rfl : m = m' := by omega
        obtain rfl : x = x' := by omega
        obtain rfl : k = k' := by omega
        rw [e1, e2]
    · exact .inr (by unfold bytF; rw [if_pos h, if_neg h']; exact wrap_ne 2 (by omega) (by omega))
  · refine .inr ?_
    unfold bytF
    rw [if_neg h]
    split
    · exact wrap_ne 2 (by omega) (by omega)
    · exact wrap_ne 4 (by omega) (by omega)
theorem lenF_inj (m m' : Nat) (h : (lenF m).2 = 0) (h' : (lenF m').2 = 0) (e : (lenF m).1 = (lenF m').1) : m = m' := by
  rw [(lenF_ok m h).1, (lenF_ok m' h').1, e]
theorem prefF_cases (f : Int) (a m x k : Nat) : (prefF f a m x k = ((a, (lenF m).1), 0) ∧ whyF f a m x k = 0) ∨ (prefF f a m x k = ((0, 0), 140) ∧ whyF f a m x k ≠ 0) := by
  unfold prefF
  by_cases h : whyF f a m x k = 0
  · exact .inl ⟨by rw [if_pos h], h⟩
  · exact .inr ⟨by rw [if_neg h], h⟩
/-- a good entry of Tag 0 is the entry of its prefix -/
theorem of_back (f : Int) (a m x k : Nat) (ha : a < 4294967296) (h : whyF f a m x k = 0) :
    f = 2 ∧ x = 0 ∧ k ≤ 16 ∧ ofV a (lenF m).1 k = .tuple #[.agg #[.int .i64 2, .int .i64 0, .int .u32 a, .int .u32 m, .int .u32 0, .int .u32 k], .int .i64 0] := by
  obtain ⟨h1, h2, h3, h4, h5, h6, h7⟩ := (whyF_zero f a m x k).1 h
  refine ⟨h1, h5, h7, ?_⟩
  have hl := lenF_ok m h2
  have hp := okP_bits a m ha h2
  rw [h3] at hp
  have : okOf a (lenF m).1 k = true := by
    unfold okOf
    rw [hp, Int.toNat_natCast, ← hl.1, h4]
    simp
    omega
  unfold ofV
  rw [if_pos this, Int.toNat_natCast, ← hl.1]
end Go.Proofs.YtlanfceilajifaaGreatDoor
/- The document's Bytes and Right of an entry. -/
namespace Go.Proofs.YtlanfceilajifaaGreatDoor
set_option linter.unusedVariables false
set_option linter.unusedSimpArgs false
open Go.RowKit
set_option maxRecDepth 100000

/-- ref03.Put of a number that its width holds, to the block -/
theorem refPut2x (n : Nat) (w : World) (hn : n < 65536) :
    Calls Tryz.prog 151 #[.int .u32 n, .int .i64 2] w fun e w' => e = .returned (.tuple #[.slice (some ⟨w.heap.size, 0, none⟩) 2 2, .int .i64 0]) ∧ w' = putW w 2 n := by
  have hmk : ∀ w, (Instr.makeSlice 25 (.int .i64 2) (.int .i64 2)).run Tryz.prog w = .ok (.slice (some ⟨w.heap.size, 0, none⟩) 2 2) (w.alloc (.cells #[.int .u8 0, .int .u8 0] 5)) := fun _ => by kernel_rfl
  go_enter Tryz.func151, Tryz.ntmps151
  go_wp2_with (go_at_call 153; refine (right_any _ _).mono ?_; rintro e w' ⟨rfl, rfl⟩)
  refine wp_loop_rounds 3 ?_
  rw [rounds_succ]; go_wp2
  rw [rounds_succ]; go_wp2
  rw [rounds_succ]; go_wp2
  go_ret2
  exact ⟨rfl, by simp [putW, bs, b8]⟩
theorem refPut4x (n : Nat) (w : World) (hn : n < 4294967296) :
    Calls Tryz.prog 151 #[.int .u32 n, .int .i64 4] w fun e w' => e = .returned (.tuple #[.slice (some ⟨w.heap.size, 0, none⟩) 4 4, .int .i64 0]) ∧ w' = putW w 4 n := by
  have hmk : ∀ w, (Instr.makeSlice 25 (.int .i64 4) (.int .i64 4)).run Tryz.prog w = .ok (.slice (some ⟨w.heap.size, 0, none⟩) 4 4) (w.alloc (.cells #[.int .u8 0, .int .u8 0, .int .u8 0, .int .u8 0] 5)) := fun _ => by kernel_rfl
  go_enter Tryz.func151, Tryz.ntmps151
  go_wp2_with (go_at_call 153; refine (right_any _ _).mono ?_; rintro e w' ⟨rfl, rfl⟩)
  refine wp_loop_rounds 5 ?_
  rw [rounds_succ]; go_wp2
  rw [rounds_succ]; go_wp2
  rw [rounds_succ]; go_wp2
  rw [rounds_succ]; go_wp2
  rw [rounds_succ]; go_wp2
  go_ret2
  exact ⟨rfl, by simp [putW, bs, b8]⟩
/-- a row of its own is handed back -/
def GivesO (base : Nat) (l : List UInt8) (w : World) (e : Ending) (w' : World) : Prop :=
  ∃ g c, e = .returned (.slice (some ⟨g, 0, none⟩) l.length c) ∧ w'.ownsRow base 5 1 (.slice (some ⟨g, 0, none⟩) l.length c) l.length (l.map b8) ∧ Below w.heap.size w w' ∧ w.heap.size ≤ g
theorem putW_own (base k n : Nat) (w : World) (hb : base ≤ w.heap.size) (hk : k ≤ 4) : (putW w k n).ownsRow base 5 1 (.slice (some ⟨w.heap.size, 0, none⟩) k k) k ((bs k n).map b8) := by
  have := World.ownsRow_lit (e := 5) (size := 1) w ((bs k n).map b8).toArray k hb (by simp only [maxLen]; omega) (by simp [bs_length])
  simpa [putW] using this
theorem refB2 (n base : Nat) (w : World) (hb : base ≤ w.heap.size) (hn : n < 65536) : Calls Tryz.prog 118 #[.int .u32 n, .int .i64 2] w (GivesO base (bs 2 n) w) := by
  go_enter Tryz.func118, Tryz.ntmps118
  go_wp2_with (go_at_call 151; refine (refPut2x n _ hn).mono ?_; rintro e w' ⟨rfl, rfl⟩)
  go_ret
  exact ⟨w.heap.size, 2, by rw [bs_length]; rfl, by rw [bs_length]; exact putW_own base 2 n w hb (by omega), putW_below _ _ _, Nat.le_refl _⟩
theorem refB4 (n base : Nat) (w : World) (hb : base ≤ w.heap.size) (hn : n < 4294967296) : Calls Tryz.prog 118 #[.int .u32 n, .int .i64 4] w (GivesO base (bs 4 n) w) := by
  go_enter Tryz.func118, Tryz.ntmps118
  go_wp2_with (go_at_call 151; refine (refPut4x n _ hn).mono ?_; rintro e w' ⟨rfl, rfl⟩)
  go_ret
  exact ⟨w.heap.size, 4, by rw [bs_length]; rfl, by rw [bs_length]; exact putW_own base 4 n w hb (by omega), putW_below _ _ _, Nat.le_refl _⟩

/-- may an entry's Family and Tag be? -/
def rightF (f t : Int) : Bool := decide (0 ≤ f ∧ f ≤ 65535 ∧ 0 ≤ t ∧ t ≤ 65535)
theorem refRightE_any (f t a m x k : Int) (w : World) :
    Calls Tryz.prog 58 #[.agg #[.int .i64 f, .int .i64 t, .int .u32 a, .int .u32 m, .int .u32 x, .int .u32 k]] w fun e w' => e = .returned (.bool (rightF f t)) ∧ Below w.heap.size w w' := by
  have HR := Lib.hid (show rightF f t = decide (0 ≤ f ∧ f ≤ 65535 ∧ 0 ≤ t ∧ t ≤ 65535) from rfl)
  by_cases h1 : 0 ≤ f
  · by_cases h2 : f ≤ 65535
    · by_cases h3 : 0 ≤ t
      · by_cases h4 : t ≤ 65535
        all_goals
          go_enter Tryz.func58, Tryz.ntmps58
          go_wp2_with fail
          go_ret
          rw [HR.out]
          exact ⟨ret_bool (by simp; omega), balloc (Below.refl _ _) _⟩
      · go_enter Tryz.func58, Tryz.ntmps58
        go_wp2_with fail
        go_ret
        rw [HR.out]
        exact ⟨ret_bool (by simp; omega), balloc (Below.refl _ _) _⟩
    · go_enter Tryz.func58, Tryz.ntmps58
      go_wp2_with fail
      go_ret
      rw [HR.out]
      exact ⟨ret_bool (by simp; omega), balloc (Below.refl _ _) _⟩
  · go_enter Tryz.func58, Tryz.ntmps58
    go_wp2_with fail
    go_ret
    rw [HR.out]
    exact ⟨ret_bool (by simp; omega), balloc (Below.refl _ _) _⟩
end Go.Proofs.YtlanfceilajifaaGreatDoor
/- The document's Bytes of an entry. -/
namespace Go.Proofs.YtlanfceilajifaaGreatDoor
set_option linter.unusedVariables false
set_option linter.unusedSimpArgs false
open Go.RowKit
set_option maxRecDepth 100000

theorem cells_below {g f t a m x k : Nat} {w w' : World} (s : Cells6 g f t a m x k w) (b : Below w.heap.size w w') : Cells6 g f t a m x k w' := ⟨keepc s.1 b, keepc s.2.1 b, keepc s.2.2.1 b, keepc s.2.2.2.1 b, keepc s.2.2.2.2.1 b, keepc s.2.2.2.2.2 b⟩
theorem cells_grown {g f t a m x k q : Nat} {w w' : World} {r : Option Nat} (s : Cells6 g f t a m x k w) (h : w.grownBy w' r) (hr : r = some q) (hq : g < q) : Cells6 g f t a m x k w' := by
  have hc : ∀ i v, w.cell? ⟨g, i, none⟩ = some v → w'.cell? ⟨g, i, none⟩ = some v := fun i v hv => (h.cell_far ⟨g, i, none⟩ (cell_lt hv) (by rw [hr]; intro e; have e2 : g = q := Option.some.inj e; omega)).trans hv
  exact ⟨hc _ _ s.1, hc _ _ s.2.1, hc _ _ s.2.2.1, hc _ _ s.2.2.2.1, hc _ _ s.2.2.2.2.1, hc _ _ s.2.2.2.2.2⟩
theorem own_lower {w : World} {base base' e n size : Nat} {v : Value} {xs : List Value} (h : w.ownsRow base e size v n xs) (hb : base' ≤ base) : w.ownsRow base' e size v n xs :=
  ⟨h.1, by
    rcases h.2 with h0 | ⟨g, cap, cur, h1, h2, h3⟩
    · exact .inl h0
    · exact .inr ⟨g, cap, cur, h1, Nat.le_trans hb h2, h3⟩⟩
theorem own_news {w : World} {base e g n c : Nat} {xs : List Value} (h : w.ownsRow base e 1 (.slice (some ⟨g, 0, none⟩) n c) n xs) : ∀ j u, xs[j]? = some u → w.cell? ((⟨g, 0, none⟩ : Addr).add j) = some u := fun j u hu => h.cells (g := g) (by simp [Value.ownBlock]) j u hu

set_option maxHeartbeats 4000000 in
theorem refEBytes_any (f t a m x k : Nat) (w : World) (hf : f < 65536) (ht : t < 65536) (ha : a < 4294967296) (hm : m < 4294967296) (hx : x < 4294967296) (hk : k < 4294967296) :
    Calls Tryz.prog 95 #[.agg #[.int .i64 f, .int .i64 t, .int .u32 a, .int .u32 m, .int .u32 x, .int .u32 k]] w (GivesS (entB f t a m x k) w) := by
  obtain ⟨i0, hi0, hz0, hz1, hz2⟩ := info_parts u8_info
  go_enter Tryz.func95, Tryz.ntmps95
  go_wp2_with fail
  have hB := Blk.new w 57 #[.int .i64 f, .int .i64 t, .int .u32 a, .int .u32 m, .int .u32 x, .int .u32 k]
  have e0 := (hB).cell 0
  have e1 := (hB).cell 1
  have e2 := (hB).cell 2
  have e3 := (hB).cell 3
  have e4 := (hB).cell 4
  have e5 := (hB).cell 5
  simp only [List.getElem?_toArray, List.getElem?_cons_zero, List.getElem?_cons_succ] at e0 e1 e2 e3 e4 e5
  have s0 : Cells6 w.heap.size f t a m x k (w.alloc (.cells #[.int .i64 f, .int .i64 t, .int .u32 a, .int .u32 m, .int .u32 x, .int .u32 k] 57)) := ⟨e0, e1, e2, e3, e4, e5⟩
  have B0 : Below w.heap.size w (w.alloc (.cells #[.int .i64 f, .int .i64 t, .int .u32 a, .int .u32 m, .int .u32 x, .int .u32 k] 57)) := balloc (Below.refl _ _) _
  have z0 : w.heap.size + 1 ≤ (w.alloc (.cells #[.int .i64 f, .int .i64 t, .int .u32 a, .int .u32 m, .int .u32 x, .int .u32 k] 57)).heap.size := by simp
  generalize w.alloc (.cells #[.int .i64 f, .int .i64 t, .int .u32 a, .int .u32 m, .int .u32 x, .int .u32 k] 57) = w0 at *
  clear hB e0 e1 e2 e3 e4 e5
  have hwf : IntKind.u32.wrap (f : Int) = f := IntWalk.u32_in _ ⟨by omega, by omega⟩
  have hwt : IntKind.u32.wrap (t : Int) = t := IntWalk.u32_in _ ⟨by omega, by omega⟩
  have s0' : Cells6 w.heap.size f t a m x k w0.drew := s0
  go_region_held3 (fun w' => Cells6 w.heap.size f t a m x k w') (first | exact s0' | exact s3 | exact s2 | exact s1)
    (first
    | (go_at_call_of 118 (Value.int IntKind.u32 ((f : Nat) : Int)); refine (refB2 f (w.heap.size + 1) w0.drew z0 hf).mono ?_; rintro e w1 ⟨g1, c1, rfl, o1, b1, h1⟩; have s1 := cells_below s0' b1)
    | (go_at_call_of 118 (Value.int IntKind.u32 ((t : Nat) : Int)); refine (refB2 t (w.heap.size + 1) w1 (Nat.le_trans z0 b1.size) ht).mono ?_; rintro e w2 ⟨g2, c2, rfl, o2, b2, h2⟩; have s2 := cells_below s1 b2)
    | (refine step_append_lies _ (by rfl) _ _ _ (by rfl) (w.heap.size + 1) 5 i0 _ 1 1 Tryz.underlying25 hi0 hz0 hz1 hz2 rfl (by omega) (.slice (some ⟨g1, 0, none⟩) (bs 2 f).length c1) (bs 2 f).length _ (by rfl) (own_below o1 b2) ⟨g2, 0, none⟩ (bs 2 t).length c2 _ (by rfl) (by simp) (own_news o2) (b8_one _) (by simp [bs_length]) (by simp only [bs_length, maxLen]; omega) (by simp only [bs_length]; omega) (Nat.le_trans z0 (Nat.le_trans b1.size b2.size)) w2.heap.size rfl ?_; intro g3 c3 w3 o3 r3 a3 l3; have s3 := cells_grown s2 r3 rfl (show w.heap.size < g1 from Nat.lt_of_lt_of_le (Nat.lt_succ_self _) (Nat.le_trans z0 h1))))
  go_wp2_with fail
  have z3 : w.heap.size + 1 ≤ w3.heap.size := Nat.le_trans z0 (Nat.le_trans b1.size (Nat.le_trans b2.size r3.size))
  have hg3 : w.heap.size + 1 ≤ g3 := own_base o3 g3 (by simp [Value.ownBlock])
  have B3 : Below w.heap.size w w3 := (bnext (bnext (bnext B0 (Below.drew (Below.refl _ w0))) b1) b2).grown r3 (Nat.le_trans (Nat.le_succ _) (Nat.le_trans z0 (Nat.le_trans b1.size b2.size))) (fun q e => by have : g1 = q := Option.some.inj e; have := Nat.le_trans z0 h1; omega)
  have s3' : Cells6 w.heap.size f t a m x k w3.drew := s3
  have o3' : w3.drew.ownsRow (w.heap.size + 1) 5 1 (.slice (some ⟨g3, 0, none⟩) ((bs 2 f).length + (bs 2 t).length) c3) ((bs 2 f).length + (bs 2 t).length) ((bs 2 f).map b8 ++ (bs 2 t).map b8) := o3
  clear o1 o2 b1 b2 s1 s2 s0 s0' r3 a3 l3 h1 h2 B0
  go_region_held3 (fun w' => Cells6 w.heap.size f t a m x k w') (first | exact s3' | exact s7 | exact s6 | exact s5 | exact s4)
    (first
    | (go_at_call_of 118 (Value.int IntKind.u32 ((a : Nat) : Int)); refine (refB4 a (w.heap.size + 1) w3.drew z3 ha).mono ?_; rintro e w4 ⟨g4, c4, rfl, o4, bw4, h4⟩; have s4 := cells_below s3' bw4; have z4 := Nat.le_trans z3 bw4.size)
    | (go_at_call_of 118 (Value.int IntKind.u32 ((m : Nat) : Int)); refine (refB4 m (w.heap.size + 1) w5 z5 hm).mono ?_; rintro e w6 ⟨g6, c6, rfl, o6, bw6, h6⟩; have s6 := cells_below s5 bw6; have z6 := Nat.le_trans z5 bw6.size)
    | (refine step_append_lies _ (by rfl) _ _ _ (by rfl) (w.heap.size + 1) 5 i0 _ 1 1 Tryz.underlying25 hi0 hz0 hz1 hz2 rfl (by omega) (.slice (some ⟨g3, 0, none⟩) ((bs 2 f).length + (bs 2 t).length) c3) ((bs 2 f).length + (bs 2 t).length) _ (by rfl) (own_below o3' bw4) ⟨g4, 0, none⟩ (bs 4 a).length c4 _ (by rfl) (by simp) (own_news o4) (b8_one _) (by simp [bs_length]) (by simp only [bs_length, maxLen]; omega) (by simp only [bs_length]; omega) (z4) w4.heap.size rfl ?_; intro g5 c5 w5 o5 r5 a5 l5; have s5 := cells_grown s4 r5 rfl (show w.heap.size < g3 from hg3); have z5 := Nat.le_trans z4 r5.size; have hg5 : w.heap.size + 1 ≤ g5 := own_base o5 g5 (by simp [Value.ownBlock]))
    | (refine step_append_lies _ (by rfl) _ _ _ (by rfl) (w.heap.size + 1) 5 i0 _ 1 1 Tryz.underlying25 hi0 hz0 hz1 hz2 rfl (by omega) (.slice (some ⟨g5, 0, none⟩) (((bs 2 f).length + (bs 2 t).length) + (bs 4 a).length) c5) (((bs 2 f).length + (bs 2 t).length) + (bs 4 a).length) _ (by rfl) (own_below o5 bw6) ⟨g6, 0, none⟩ (bs 4 m).length c6 _ (by rfl) (by simp) (own_news o6) (b8_one _) (by simp [bs_length]) (by simp only [bs_length, maxLen]; omega) (by simp only [bs_length]; omega) (z6) w6.heap.size rfl ?_; intro g7 c7 w7 o7 r7 a7 l7; have s7 := cells_grown s6 r7 rfl (show w.heap.size < g5 from hg5); have z7 := Nat.le_trans z6 r7.size; have hg7 : w.heap.size + 1 ≤ g7 := own_base o7 g7 (by simp [Value.ownBlock])))
  have B4 : Below w.heap.size w w4 := bnext (bnext B3 (Below.drew (Below.refl _ w3))) bw4
  have B5 : Below w.heap.size w w5 := B4.grown r5 B4.size (fun q e => by have : g3 = q := Option.some.inj e; omega)
  have B6 : Below w.heap.size w w6 := bnext B5 bw6
  have B7 : Below w.heap.size w w7 := B6.grown r7 B6.size (fun q e => by have : g5 = q := Option.some.inj e; omega)
  go_wp2_with fail
  have s7' : Cells6 w.heap.size f t a m x k w7.drew := s7
  have o7' : w7.drew.ownsRow (w.heap.size + 1) 5 1 (.slice (some ⟨g7, 0, none⟩) ((((bs 2 f).length + (bs 2 t).length) + (bs 4 a).length) + (bs 4 m).length) c7) ((((bs 2 f).length + (bs 2 t).length) + (bs 4 a).length) + (bs 4 m).length) ((((bs 2 f).map b8 ++ (bs 2 t).map b8) ++ (bs 4 a).map b8) ++ (bs 4 m).map b8) := o7
  clear s3' o3' o4 o5 o6 bw4 bw6 s4 s5 s6 r5 r7 a5 a7 l5 l7 h4 h6
  go_region_held3 (fun w' => Cells6 w.heap.size f t a m x k w') (first | exact s7' | exact s11 | exact s10 | exact s9 | exact s8)
    (first
    | (go_at_call_of 118 (Value.int IntKind.u32 ((x : Nat) : Int)); refine (refB4 x (w.heap.size + 1) w7.drew z7 hx).mono ?_; rintro e w8 ⟨g8, c8, rfl, o8, bw8, h8⟩; have s8 := cells_below s7' bw8; have z8 := Nat.le_trans z7 bw8.size)
    | (go_at_call_of 118 (Value.int IntKind.u32 ((k : Nat) : Int)); refine (refB4 k (w.heap.size + 1) w9 z9 hk).mono ?_; rintro e w10 ⟨g10, c10, rfl, o10, bw10, h10⟩; have s10 := cells_below s9 bw10; have z10 := Nat.le_trans z9 bw10.size)
    | (refine step_append_lies _ (by rfl) _ _ _ (by rfl) (w.heap.size + 1) 5 i0 _ 1 1 Tryz.underlying25 hi0 hz0 hz1 hz2 rfl (by omega) (.slice (some ⟨g7, 0, none⟩) ((((bs 2 f).length + (bs 2 t).length) + (bs 4 a).length) + (bs 4 m).length) c7) ((((bs 2 f).length + (bs 2 t).length) + (bs 4 a).length) + (bs 4 m).length) _ (by rfl) (own_below o7' bw8) ⟨g8, 0, none⟩ (bs 4 x).length c8 _ (by rfl) (by simp) (own_news o8) (b8_one _) (by simp [bs_length]) (by simp only [bs_length, maxLen]; omega) (by simp only [bs_length]; omega) (z8) w8.heap.size rfl ?_; intro g9 c9 w9 o9 r9 a9 l9; have s9 := cells_grown s8 r9 rfl (show w.heap.size < g7 from hg7); have z9 := Nat.le_trans z8 r9.size; have hg9 : w.heap.size + 1 ≤ g9 := own_base o9 g9 (by simp [Value.ownBlock]))
    | (refine step_append_lies _ (by rfl) _ _ _ (by rfl) (w.heap.size + 1) 5 i0 _ 1 1 Tryz.underlying25 hi0 hz0 hz1 hz2 rfl (by omega) (.slice (some ⟨g9, 0, none⟩) (((((bs 2 f).length + (bs 2 t).length) + (bs 4 a).length) + (bs 4 m).length) + (bs 4 x).length) c9) (((((bs 2 f).length + (bs 2 t).length) + (bs 4 a).length) + (bs 4 m).length) + (bs 4 x).length) _ (by rfl) (own_below o9 bw10) ⟨g10, 0, none⟩ (bs 4 k).length c10 _ (by rfl) (by simp) (own_news o10) (b8_one _) (by simp [bs_length]) (by simp only [bs_length, maxLen]; omega) (by simp only [bs_length]; omega) (z10) w10.heap.size rfl ?_; intro g11 c11 w11 o11 r11 a11 l11; have s11 := cells_grown s10 r11 rfl (show w.heap.size < g9 from hg9); have z11 := Nat.le_trans z10 r11.size; have hg11 : w.heap.size + 1 ≤ g11 := own_base o11 g11 (by simp [Value.ownBlock])))
  have B8 : Below w.heap.size w w8 := bnext (bnext B7 (Below.drew (Below.refl _ w7))) bw8
  have B9 : Below w.heap.size w w9 := B8.grown r9 B8.size (fun q e => by have : g7 = q := Option.some.inj e; omega)
  have B10 : Below w.heap.size w w10 := bnext B9 bw10
  have B11 : Below w.heap.size w w11 := B10.grown r11 B10.size (fun q e => by have : g9 = q := Option.some.inj e; omega)
  go_wp2_with fail
  go_ret
  have hl : ((((((bs 2 f).map b8 ++ (bs 2 t).map b8) ++ (bs 4 a).map b8) ++ (bs 4 m).map b8) ++ (bs 4 x).map b8) ++ (bs 4 k).map b8) = (entB f t a m x k).map b8 := by simp [entB]
  have hn : ((((((bs 2 f).length + (bs 2 t).length) + (bs 4 a).length) + (bs 4 m).length) + (bs 4 x).length) + (bs 4 k).length) = (entB f t a m x k).length := by simp [entB]; omega
  rw [hl] at o11
  exact own_gives hn.symm (own_lower o11 (Nat.le_succ _)) B11
end Go.Proofs.YtlanfceilajifaaGreatDoor
/- EntryBytes: plain laws, and entry.Read of any bytes in one word. -/
namespace Go.Proofs.YtlanfceilajifaaGreatDoor
set_option linter.unusedVariables false
set_option linter.unusedSimpArgs false
open Go.RowKit
set_option maxRecDepth 100000

theorem bs_fld (l : List UInt8) (p k : Nat) (h : p + k ≤ l.length) : bs k (fld l p k) = (l.drop p).take k := by
  have hl : ((l.drop p).take k).length = k := by simp; omega
  have := bs_be ((l.drop p).take k)
  rw [hl] at this
  exact this
/-- the bytes of the entry that was read -/
theorem entB_read (l : List UInt8) (h : 20 ≤ l.length) : entB (fld l 0 2) (fld l 2 2) (fld l 4 4) (fld l 8 4) (fld l 12 4) (fld l 16 4) = l.take 20 := by
  unfold entB
  rw [bs_fld l 0 2 (by omega), bs_fld l 2 2 (by omega), bs_fld l 4 4 (by omega), bs_fld l 8 4 (by omega), bs_fld l 12 4 (by omega), bs_fld l 16 4 (by omega)]
  have e1 : ∀ (p k n : Nat), (l.drop p).take (k + n) = (l.drop p).take k ++ (l.drop (p + k)).take n := fun p k n => by rw [List.take_add, List.drop_drop]
  rw [show (20 : Nat) = 2 + (2 + (4 + (4 + (4 + 4)))) from rfl, ← List.drop_zero (l := l), e1, e1, e1, e1, e1]
  simp
theorem fld_bs (pre rest : List UInt8) (p k n : Nat) (hp : pre.length = p) (hn : n < 256 ^ k) : fld (pre ++ (bs k n ++ rest)) p k = n := by
  unfold fld
  rw [List.drop_append_of_le_length (by omega), List.drop_of_length_le (by omega), List.nil_append, List.take_append_of_le_length (by rw [bs_length]; exact Nat.le_refl _), List.take_of_length_le (by rw [bs_length]; exact Nat.le_refl _), be_bs, Nat.mod_eq_of_lt hn]
/-- the entry of an entry's bytes -/
theorem read_entB (f t a m x k : Nat) (l : List UInt8) (hf : f < 65536) (ht : t < 65536) (ha : a < 4294967296) (hm : m < 4294967296) (hx : x < 4294967296) (hk : k < 4294967296) :
    readE (entB f t a m x k ++ l) = .agg #[.int .i64 f, .int .i64 t, .int .u32 a, .int .u32 m, .int .u32 x, .int .u32 k] := by
  unfold readE
  have e : entB f t a m x k ++ l = bs 2 f ++ (bs 2 t ++ (bs 4 a ++ (bs 4 m ++ (bs 4 x ++ (bs 4 k ++ l))))) := by simp [entB]
  have e0 : fld (entB f t a m x k ++ l) 0 2 = f := by rw [e]; exact fld_bs [] _ 0 2 f rfl (by omega)
  have e1 : fld (entB f t a m x k ++ l) 2 2 = t := by rw [e]; exact fld_bs (bs 2 f) _ 2 2 t (bs_length _ _) (by omega)
  have e2 : fld (entB f t a m x k ++ l) 4 4 = a := by
    rw [e, show bs 2 f ++ (bs 2 t ++ (bs 4 a ++ (bs 4 m ++ (bs 4 x ++ (bs 4 k ++ l))))) = (bs 2 f ++ bs 2 t) ++ (bs 4 a ++ (bs 4 m ++ (bs 4 x ++ (bs 4 k ++ l)))) by simp]
    exact fld_bs _ _ 4 4 a (by simp [bs_length]) (by omega)
  have e3 : fld (entB f t a m x k ++ l) 8 4 = m := by
    rw [e, show bs 2 f ++ (bs 2 t ++ (bs 4 a ++ (bs 4 m ++ (bs 4 x ++ (bs 4 k ++ l))))) = (bs 2 f ++ (bs 2 t ++ bs 4 a)) ++ (bs 4 m ++ (bs 4 x ++ (bs 4 k ++ l))) by simp]
    exact fld_bs _ _ 8 4 m (by simp [bs_length]) (by omega)
  have e4 : fld (entB f t a m x k ++ l) 12 4 = x := by
    rw [e, show bs 2 f ++ (bs 2 t ++ (bs 4 a ++ (bs 4 m ++ (bs 4 x ++ (bs 4 k ++ l))))) = (bs 2 f ++ (bs 2 t ++ (bs 4 a ++ bs 4 m))) ++ (bs 4 x ++ (bs 4 k ++ l)) by simp]
    exact fld_bs _ _ 12 4 x (by simp [bs_length]) (by omega)
  have e5 : fld (entB f t a m x k ++ l) 16 4 = k := by
    rw [e, show bs 2 f ++ (bs 2 t ++ (bs 4 a ++ (bs 4 m ++ (bs 4 x ++ (bs 4 k ++ l))))) = (bs 2 f ++ (bs 2 t ++ (bs 4 a ++ (bs 4 m ++ bs 4 x)))) ++ (bs 4 k ++ l) by simp]
    exact fld_bs _ _ 16 4 k (by simp [bs_length]) (by omega)
  rw [e0, e1, e2, e3, e4, e5]
theorem eread_bad (l : List UInt8) (A : Option Addr) (c : Nat) (w : World) (hw : WidthsAt w) (hrd : Rd w w.heap.size A (l.map b8)) (hlc : l.length ≤ c) (hcm : c ≤ 9223372036854775807) (hl : l.length < 20) :
    Calls Tryz.prog 114 #[.slice A l.length c] w fun e w' => e = .returned (.tuple #[.agg #[.int .i64 0, .int .i64 0, .int .u32 0, .int .u32 0, .int .u32 0, .int .u32 0], .int .i64 130]) ∧ Below w.heap.size w w' := by
  by_cases h0 : l.length < 2
  · exact eread_bad0 l _ rfl A c w hw hrd hlc hcm (by omega) h0
  by_cases h1 : l.length < 4
  · exact eread_bad1 l _ rfl A c w hw hrd hlc hcm (by omega) h1
  by_cases h2 : l.length < 8
  · exact eread_bad2 l _ rfl A c w hw hrd hlc hcm (by omega) h2
  by_cases h3 : l.length < 12
  · exact eread_bad3 l _ rfl A c w hw hrd hlc hcm (by omega) h3
  by_cases h4 : l.length < 16
  · exact eread_bad4 l _ rfl A c w hw hrd hlc hcm (by omega) h4
  · exact eread_bad5 l _ rfl A c w hw hrd hlc hcm (by omega) hl
end Go.Proofs.YtlanfceilajifaaGreatDoor
