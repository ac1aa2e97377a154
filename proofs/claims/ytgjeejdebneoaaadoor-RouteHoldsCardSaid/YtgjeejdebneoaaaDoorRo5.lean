/- route: a route as a record, what becomes of it, in plain Lean; the deferred functions; what gives up; lost. -/
import Derived.Test.YtgjeejdebneoaaaDoorRo4
import Derived.Defers
import Derived.Recover
import Derived.Laws.Pointers
import Derived.WalkLawsBesides
import Derived.RegionTactic
namespace Go.Proofs.YtgjeejdebneoaaaDoor
set_option linter.unusedVariables false
set_option linter.unusedSimpArgs false
open Go.RowKit
set_option maxRecDepth 100000

/-- a route -/
structure Rt where
  a : Nat
  m : Int
  st : Int
  me : Int
  lo : Int
  fa : Int
  nx : Nat
  du : Int
  ch : Bool
deriving DecidableEq
def rz : Rt := ⟨0, 0, 0, 0, 0, 0, 0, 0, false⟩
def okRt (r : Rt) : Bool := okR r.a r.m r.st r.me r.lo r.fa r.nx r.du r.ch
/-- a valid route that is lost -/
def lostR (h : Int) (r : Rt) (now : Int) : Rt := ⟨r.a, r.m, 3, 16, r.me, r.fa, r.nx, now + h, true⟩
def loseR (h : Int) (r : Rt) (now : Int) : Rt := if r.st = 2 then lostR h r now else r
/-- a route that becomes what is heard -/
def becR (t : Int) (r : Rt) (hf : Int) (hx : Nat) (n now : Int) : Rt := ⟨r.a, r.m, 2, n, 0, hf, hx, now + t, true⟩
def hearR (t h : Int) (r : Rt) (hf : Int) (hx : Nat) (hm now : Int) : Rt :=
  let n := min (hm + 1) 16
  if r.st = 1 then r
  else if r.st = 2 then
    if hf = r.fa ∧ hx = r.nx then (if n = r.me then { r with du := now + t } else if n = 16 then lostR h r now else becR t r hf hx n now)
    else if n < r.me then becR t r hf hx n now else r
  else if r.st = 3 then (if n < r.lo then becR t r hf hx n now else r)
  else if n < 16 then becR t r hf hx n now else r
def expR (h g : Int) (r : Rt) (now : Int) : Rt :=
  if timF r.st = false ∨ now < r.du then r
  else if r.st = 2 then lostR h r now
  else if r.st = 3 then { r with st := 4, lo := 0, du := now + g }
  else { rz with a := r.a, m := r.m }
/-- the errors of what is asked -/
def askR (ok : Bool) (now : Int) : Int := if ok then (if inF 0 4611686018426387904 now then 0 else 170) else 2
theorem askR_cases (ok : Bool) (now : Int) : (askR ok now = 2 ∧ ok = false) ∨ (askR ok now = 170 ∧ ok = true ∧ inF 0 4611686018426387904 now = false) ∨ (askR ok now = 0 ∧ ok = true ∧ inF 0 4611686018426387904 now = true) := by
  unfold askR
  cases ok
  · left; exact ⟨rfl, rfl⟩
  · cases inF 0 4611686018426387904 now
    · right; left; exact ⟨rfl, rfl, rfl⟩
    · right; right; exact ⟨rfl, rfl, rfl⟩

/-- a call that gives up, or does not -/
def stpE (x : Int) : Ending := if x = 0 then .returned (.tuple #[]) else .panicked [{ v := .iface 70 (.int .i64 x), recovered := false }]
theorem stpE_0 : stpE 0 = .returned (.tuple #[]) := rfl
theorem stpE_2 : stpE 2 = .panicked [{ v := .iface 70 (.int .i64 2), recovered := false }] := rfl
theorem stpE_170 : stpE 170 = .panicked [{ v := .iface 70 (.int .i64 170), recovered := false }] := rfl

set_option maxHeartbeats 1000000 in
theorem mustNow_any (now : Int) (w : World) :
    Calls Tryd.prog 34 #[.int .i64 now] w fun e w' => e = stpE (if inF 0 4611686018426387904 now then 0 else 170) ∧ Below w.heap.size w w' := by
  have HW := Lib.hid (fun (g : Nat) (w : World) c0 => within64_any 0 4611686018426387904 now g w c0)
  generalize inF 0 4611686018426387904 now = b1 at *
  cases b1
  · go_enter Tryd.func34, Tryd.ntmps34
    go_wp2_with fail
    refine (HW.out _ _ (new1 _ _ _)).mono ?_
    rintro e w' ⟨rfl, rfl⟩
    go_wp2_with fail
    exact ⟨rfl, rfl, balloc (Below.refl _ _) _⟩
  · go_enter Tryd.func34, Tryd.ntmps34
    go_wp2_with fail
    refine (HW.out _ _ (new1 _ _ _)).mono ?_
    rintro e w' ⟨rfl, rfl⟩
    go_wp2_with fail
    go_end0
    exact ⟨rfl, balloc (Below.refl _ _) _⟩

/-- may it be heard? -/
def okH (hf : Int) (hx : Nat) (hm : Int) : Bool := mayF hf hx && inF 1 16 hm
set_option maxHeartbeats 1000000 in
theorem mustHeard_any (hf : Int) (hx : Nat) (hm : Int) (w : World) (hb : hx < 4294967296) :
    Calls Tryd.prog 33 #[.agg #[.int .i64 hf, .int .u32 hx, .int .i64 hm]] w fun e w' => e = stpE (errC (okH hf hx hm)) ∧ Below w.heap.size w w' := by
  unfold okH
  have HM := Lib.hid (fun w => mayCome_any hf hx w hb)
  have HW := Lib.hid (fun (g : Nat) (w : World) c0 => withinI_any 1 16 hm g w c0)
  have HE := Lib.hid (Blk.new w 33 #[.int .i64 hf, .int .u32 hx, .int .i64 hm])
  clear hb
  generalize mayF hf hx = b1 at *
  generalize inF 1 16 hm = b2 at *
  cases b1
  · go_enter Tryd.func33, Tryd.ntmps33
    go_wp2_with fail
    refine (HM.out _).mono ?_
    rintro e w1 ⟨rfl, b1⟩
    go_wp2_with fail
    exact ⟨rfl, rfl, bnext (balloc (Below.refl _ _) _) b1⟩
  cases b2
  all_goals
    go_enter Tryd.func33, Tryd.ntmps33
    go_wp2_with fail
    refine (HM.out _).mono ?_
    rintro e w1 ⟨rfl, b1⟩
    have y1 := HE.out.below b1 (by simp)
    have c0 := (y1).cell 0
    have c1 := (y1).cell 1
    have c2 := (y1).cell 2
    simp only [List.getElem?_toArray, List.getElem?_cons_zero, List.getElem?_cons_succ] at c0 c1 c2
    have BB := bnext (balloc (Below.refl w.heap.size w) _) b1
    clear y1
    go_wp2_with fail
    refine (HW.out _ _ (new1 _ _ _)).mono ?_
    rintro e w' ⟨rfl, rfl⟩
    go_wp2_with fail
    first
      | exact ⟨rfl, rfl, balloc BB _⟩
      | (go_end0; exact ⟨rfl, balloc BB _⟩)

set_option maxHeartbeats 1000000 in
theorem mustBeR_any (p j t h g q s cp : Int) (A : Option Addr) (n k B : Nat) (l : List (Nat × Int)) (hn : l.length = n) (a : Nat) (m st me lo fa : Int) (nx : Nat) (du : Int) (ch : Bool) (w : World) (hr : Rd w B A (plC l)) (hB : B ≤ w.heap.size) (hnk : n ≤ k) (hk : k ≤ 9223372036854775807) (hl : ∀ x ∈ l, x.1 < 4294967296) (hw : CapsAt w) (ha : a < 4294967296) (hx : nx < 4294967296) :
    Calls Tryd.prog 32 #[.agg #[.int .i64 p, .int .i64 j, .int .i64 t, .int .i64 h, .int .i64 g, .int .i64 q, .int .i64 s, .int .i64 cp, .slice A n k], .agg #[.int .u32 a, .int .i64 m, .int .i64 st, .int .i64 me, .int .i64 lo, .int .i64 fa, .int .u32 nx, .int .i64 du, .bool ch]] w fun e w' => e = stpE (errC (okC p j t h g q s cp l && okR a m st me lo fa nx du ch)) ∧ Below w.heap.size w w' := by
  have B0 : Below w.heap.size w ((w.alloc (.cells #[.int .i64 p, .int .i64 j, .int .i64 t, .int .i64 h, .int .i64 g, .int .i64 q, .int .i64 s, .int .i64 cp, .slice A n k] 24)).alloc (.cells #[.int .u32 a, .int .i64 m, .int .i64 st, .int .i64 me, .int .i64 lo, .int .i64 fa, .int .u32 nx, .int .i64 du, .bool ch] 31)) := balloc (balloc (Below.refl _ _) _) _
  have HC := Lib.hid (ccheck_any p j t h g q s cp A n k B l hn ((w.alloc (.cells #[.int .i64 p, .int .i64 j, .int .i64 t, .int .i64 h, .int .i64 g, .int .i64 q, .int .i64 s, .int .i64 cp, .slice A n k] 24)).alloc (.cells #[.int .u32 a, .int .i64 m, .int .i64 st, .int .i64 me, .int .i64 lo, .int .i64 fa, .int .u32 nx, .int .i64 du, .bool ch] 31)) (hr.below (B0.mono hB)) (by simp; omega) hnk hk hl (hw.below B0))
  have HR := Lib.hid (fun W => rcheck_any a m st me lo fa nx du ch W ha hx)
  have y := Blk.new (w.alloc (.cells #[.int .i64 p, .int .i64 j, .int .i64 t, .int .i64 h, .int .i64 g, .int .i64 q, .int .i64 s, .int .i64 cp, .slice A n k] 24)) 31 #[.int .u32 a, .int .i64 m, .int .i64 st, .int .i64 me, .int .i64 lo, .int .i64 fa, .int .u32 nx, .int .i64 du, .bool ch]
  rw [World.size_alloc] at y
  have Y := Lib.hid (And.intro y B0)
  clear hr hl hw ha hx y B0
  generalize okC p j t h g q s cp l = oc at *
  generalize okR a m st me lo fa nx du ch = or at *
  cases oc
  · go_enter Tryd.func32, Tryd.ntmps32
    go_wp2_with fail
    refine HC.out.mono ?_
    rintro e w1 ⟨rfl, b1⟩
    go_wp2_with fail
    exact ⟨rfl, rfl, bnext Y.out.2 b1⟩
  cases or
  all_goals
    rw [show errC true = 0 from rfl] at HC
    go_enter Tryd.func32, Tryd.ntmps32
    go_wp2_with fail
    refine HC.out.mono ?_
    rintro e w1 ⟨rfl, b1⟩
    have y1 := Y.out.1.below b1 Y.out.1.lt
    have c0 := (y1).cell 0
    have c1 := (y1).cell 1
    have c2 := (y1).cell 2
    have c3 := (y1).cell 3
    have c4 := (y1).cell 4
    have c5 := (y1).cell 5
    have c6 := (y1).cell 6
    have c7 := (y1).cell 7
    have c8 := (y1).cell 8
    simp only [List.getElem?_toArray, List.getElem?_cons_zero, List.getElem?_cons_succ] at c0 c1 c2 c3 c4 c5 c6 c7 c8
    have BB := bnext Y.out.2 b1
    clear y1 b1
    go_wp2_with fail
    refine (HR.out _).mono ?_
    rintro e w2 ⟨rfl, b2⟩
    go_wp2_with fail
    first
      | exact ⟨rfl, rfl, bnext BB b2⟩
      | (go_end0; exact ⟨rfl, bnext BB b2⟩)

set_option maxHeartbeats 1000000 in
theorem hear_idle (b d : Nat) (w : World) :
    CallsD Tryd.prog 31 #[.pointer (some ⟨b, 0, none⟩), .pointer (some ⟨d, 0, none⟩)] .returning w fun e u' w' => e = .returned (.tuple #[]) ∧ u' = .returning ∧ w' = w := by
  have hta : ∀ w, (Instr.typeAssert .nilIface 20 70 true).run Tryd.prog w = .ok (.tuple #[.int .i64 0, .bool false]) w := fun _ => by kernel_rfl
  refine callsD_of_wpS Tryd.func31 rfl fun c₀ cs hu => ?_
  simp only [Tryd.ntmps31, List.size_toArray, List.length_cons, List.length_nil, Nat.reduceAdd, Nat.reduceSub, Array.replicate_succ, Array.replicate_zero, List.push_toArray, List.append_toArray, List.nil_append, List.cons_append]
  apply wpS_seq
  apply wpS_region
  simp [wpOpsS, go_sem, recoverD, hu, Exit.thenS, hta]
  refine wpS_of_wp ?_
  go_wp2
  cases c₀
  simp_all [bodyPostS, results, Tryd.results31]

set_option maxHeartbeats 2000000 in
theorem hear_pan (b d : Nat) (o0 o1 o2 o3 o4 o5 o6 o7 o8 o : Value) (x : Int) (older : List PanicEntry) (w : World) (hb : Blk w b 31 #[o0, o1, o2, o3, o4, o5, o6, o7, o8]) (hd : Blk w d 36 #[o]) (nbd : ¬ b = d) (ndb : ¬ d = b) :
    CallsD Tryd.prog 31 #[.pointer (some ⟨b, 0, none⟩), .pointer (some ⟨d, 0, none⟩)] (.panicking ({ v := .iface 70 (.int .i64 x), recovered := false } :: older)) w fun e u' w' => e = .returned (.tuple #[]) ∧ u' = .panicking ({ v := .iface 70 (.int .i64 x), recovered := true } :: older) ∧
      (Blk w' b 31 #[.int .u32 0, .int .i64 0, .int .i64 0, .int .i64 0, .int .i64 0, .int .i64 0, .int .u32 0, .int .i64 0, .bool false] ∧ Blk w' d 36 #[.int .i64 x] ∧ ∀ k, k ≤ b → k ≤ d → Below k w w') := by
  have hta : ∀ w, (Instr.typeAssert (.iface 70 (.int .i64 x)) 20 70 true).run Tryd.prog w = .ok (.tuple #[.int .i64 x, .bool true]) w := fun _ => by kernel_rfl
  have c0 := (hb).cell 0
  have c1 := (hb).cell 1
  have c2 := (hb).cell 2
  have c3 := (hb).cell 3
  have c4 := (hb).cell 4
  have c5 := (hb).cell 5
  have c6 := (hb).cell 6
  have c7 := (hb).cell 7
  have c8 := (hb).cell 8
  simp only [List.getElem?_toArray, List.getElem?_cons_zero, List.getElem?_cons_succ] at c0 c1 c2 c3 c4 c5 c6 c7 c8
  have g0 := (hd).cell 0
  simp only [List.getElem?_toArray, List.getElem?_cons_zero, List.getElem?_cons_succ] at g0
  have f0 := hb.frozen 0
  have f1 := hb.frozen 1
  have f2 := hb.frozen 2
  have f3 := hb.frozen 3
  have f4 := hb.frozen 4
  have f5 := hb.frozen 5
  have f6 := hb.frozen 6
  have f7 := hb.frozen 7
  have f8 := hb.frozen 8
  have f9 := hd.frozen 0
  have HB := Lib.hid hb
  have HD := Lib.hid hd
  clear hb hd
  refine callsD_of_wpS Tryd.func31 rfl fun c₀ cs hu => ?_
  simp only [Tryd.ntmps31, List.size_toArray, List.length_cons, List.length_nil, Nat.reduceAdd, Nat.reduceSub, Array.replicate_succ, Array.replicate_zero, List.push_toArray, List.append_toArray, List.nil_append, List.cons_append]
  apply wpS_seq
  apply wpS_region
  simp [wpOpsS, go_sem, recoverD, hu, Exit.thenS, hta]
  refine wpS_of_wp ?_
  go_wp2
  have h1 : Blk ((((((((((w.setCell ⟨b, 0, none⟩ (.int .u32 0)).setCell ⟨b, 1, none⟩ (.int .i64 0)).setCell ⟨b, 2, none⟩ (.int .i64 0)).setCell ⟨b, 3, none⟩ (.int .i64 0)).setCell ⟨b, 4, none⟩ (.int .i64 0)).setCell ⟨b, 5, none⟩ (.int .i64 0)).setCell ⟨b, 6, none⟩ (.int .u32 0)).setCell ⟨b, 7, none⟩ (.int .i64 0)).setCell ⟨b, 8, none⟩ (.bool false)).setCell ⟨d, 0, none⟩ (.int .i64 x)) b 31 #[.int .u32 0, .int .i64 0, .int .i64 0, .int .i64 0, .int .i64 0, .int .i64 0, .int .u32 0, .int .i64 0, .bool false] := by
    have := ((((((((((HB.out.set 0 (.int .u32 0)).set 1 (.int .i64 0)).set 2 (.int .i64 0)).set 3 (.int .i64 0)).set 4 (.int .i64 0)).set 5 (.int .i64 0)).set 6 (.int .u32 0)).set 7 (.int .i64 0)).set 8 (.bool false)).far (p := ⟨d, 0, none⟩) nbd (.int .i64 x))
    simpa using this
  have h2 : Blk ((((((((((w.setCell ⟨b, 0, none⟩ (.int .u32 0)).setCell ⟨b, 1, none⟩ (.int .i64 0)).setCell ⟨b, 2, none⟩ (.int .i64 0)).setCell ⟨b, 3, none⟩ (.int .i64 0)).setCell ⟨b, 4, none⟩ (.int .i64 0)).setCell ⟨b, 5, none⟩ (.int .i64 0)).setCell ⟨b, 6, none⟩ (.int .u32 0)).setCell ⟨b, 7, none⟩ (.int .i64 0)).setCell ⟨b, 8, none⟩ (.bool false)).setCell ⟨d, 0, none⟩ (.int .i64 x)) d 36 #[.int .i64 x] := by
    have := ((((((((((HD.out.far (p := ⟨b, 0, none⟩) ndb (.int .u32 0)).far (p := ⟨b, 1, none⟩) ndb (.int .i64 0)).far (p := ⟨b, 2, none⟩) ndb (.int .i64 0)).far (p := ⟨b, 3, none⟩) ndb (.int .i64 0)).far (p := ⟨b, 4, none⟩) ndb (.int .i64 0)).far (p := ⟨b, 5, none⟩) ndb (.int .i64 0)).far (p := ⟨b, 6, none⟩) ndb (.int .u32 0)).far (p := ⟨b, 7, none⟩) ndb (.int .i64 0)).far (p := ⟨b, 8, none⟩) ndb (.bool false)).set 0 (.int .i64 x))
    simpa using this
  have h3 : ∀ k, k ≤ b → k ≤ d → Below k w ((((((((((w.setCell ⟨b, 0, none⟩ (.int .u32 0)).setCell ⟨b, 1, none⟩ (.int .i64 0)).setCell ⟨b, 2, none⟩ (.int .i64 0)).setCell ⟨b, 3, none⟩ (.int .i64 0)).setCell ⟨b, 4, none⟩ (.int .i64 0)).setCell ⟨b, 5, none⟩ (.int .i64 0)).setCell ⟨b, 6, none⟩ (.int .u32 0)).setCell ⟨b, 7, none⟩ (.int .i64 0)).setCell ⟨b, 8, none⟩ (.bool false)).setCell ⟨d, 0, none⟩ (.int .i64 x)) := fun k h1 h2 => (((((((((((Below.refl k w).setCell (p := ⟨b, 0, none⟩) h1 _).setCell (p := ⟨b, 1, none⟩) h1 _).setCell (p := ⟨b, 2, none⟩) h1 _).setCell (p := ⟨b, 3, none⟩) h1 _).setCell (p := ⟨b, 4, none⟩) h1 _).setCell (p := ⟨b, 5, none⟩) h1 _).setCell (p := ⟨b, 6, none⟩) h1 _).setCell (p := ⟨b, 7, none⟩) h1 _).setCell (p := ⟨b, 8, none⟩) h1 _).setCell (p := ⟨d, 0, none⟩) h2 _)
  generalize ((((((((((w.setCell ⟨b, 0, none⟩ (.int .u32 0)).setCell ⟨b, 1, none⟩ (.int .i64 0)).setCell ⟨b, 2, none⟩ (.int .i64 0)).setCell ⟨b, 3, none⟩ (.int .i64 0)).setCell ⟨b, 4, none⟩ (.int .i64 0)).setCell ⟨b, 5, none⟩ (.int .i64 0)).setCell ⟨b, 6, none⟩ (.int .u32 0)).setCell ⟨b, 7, none⟩ (.int .i64 0)).setCell ⟨b, 8, none⟩ (.bool false)).setCell ⟨d, 0, none⟩ (.int .i64 x)) = wz at *
  cases c₀
  simp only [bodyPostS]
  exact ⟨trivial, _, rfl, _, results_none rfl _ _ _, rfl, rfl, h1, h2, h3⟩

set_option maxHeartbeats 1000000 in
theorem lose_idle (b d : Nat) (w : World) :
    CallsD Tryd.prog 47 #[.pointer (some ⟨b, 0, none⟩), .pointer (some ⟨d, 0, none⟩)] .returning w fun e u' w' => e = .returned (.tuple #[]) ∧ u' = .returning ∧ w' = w := by
  have hta : ∀ w, (Instr.typeAssert .nilIface 20 70 true).run Tryd.prog w = .ok (.tuple #[.int .i64 0, .bool false]) w := fun _ => by kernel_rfl
  refine callsD_of_wpS Tryd.func47 rfl fun c₀ cs hu => ?_
  simp only [Tryd.ntmps47, List.size_toArray, List.length_cons, List.length_nil, Nat.reduceAdd, Nat.reduceSub, Array.replicate_succ, Array.replicate_zero, List.push_toArray, List.append_toArray, List.nil_append, List.cons_append]
  apply wpS_seq
  apply wpS_region
  simp [wpOpsS, go_sem, recoverD, hu, Exit.thenS, hta]
  refine wpS_of_wp ?_
  go_wp2
  cases c₀
  simp_all [bodyPostS, results, Tryd.results47]

set_option maxHeartbeats 2000000 in
theorem lose_pan (b d : Nat) (o0 o1 o2 o3 o4 o5 o6 o7 o8 o : Value) (x : Int) (older : List PanicEntry) (w : World) (hb : Blk w b 31 #[o0, o1, o2, o3, o4, o5, o6, o7, o8]) (hd : Blk w d 36 #[o]) (nbd : ¬ b = d) (ndb : ¬ d = b) :
    CallsD Tryd.prog 47 #[.pointer (some ⟨b, 0, none⟩), .pointer (some ⟨d, 0, none⟩)] (.panicking ({ v := .iface 70 (.int .i64 x), recovered := false } :: older)) w fun e u' w' => e = .returned (.tuple #[]) ∧ u' = .panicking ({ v := .iface 70 (.int .i64 x), recovered := true } :: older) ∧
      (Blk w' b 31 #[.int .u32 0, .int .i64 0, .int .i64 0, .int .i64 0, .int .i64 0, .int .i64 0, .int .u32 0, .int .i64 0, .bool false] ∧ Blk w' d 36 #[.int .i64 x] ∧ ∀ k, k ≤ b → k ≤ d → Below k w w') := by
  have hta : ∀ w, (Instr.typeAssert (.iface 70 (.int .i64 x)) 20 70 true).run Tryd.prog w = .ok (.tuple #[.int .i64 x, .bool true]) w := fun _ => by kernel_rfl
  have c0 := (hb).cell 0
  have c1 := (hb).cell 1
  have c2 := (hb).cell 2
  have c3 := (hb).cell 3
  have c4 := (hb).cell 4
  have c5 := (hb).cell 5
  have c6 := (hb).cell 6
  have c7 := (hb).cell 7
  have c8 := (hb).cell 8
  simp only [List.getElem?_toArray, List.getElem?_cons_zero, List.getElem?_cons_succ] at c0 c1 c2 c3 c4 c5 c6 c7 c8
  have g0 := (hd).cell 0
  simp only [List.getElem?_toArray, List.getElem?_cons_zero, List.getElem?_cons_succ] at g0
  have f0 := hb.frozen 0
  have f1 := hb.frozen 1
  have f2 := hb.frozen 2
  have f3 := hb.frozen 3
  have f4 := hb.frozen 4
  have f5 := hb.frozen 5
  have f6 := hb.frozen 6
  have f7 := hb.frozen 7
  have f8 := hb.frozen 8
  have f9 := hd.frozen 0
  have HB := Lib.hid hb
  have HD := Lib.hid hd
  clear hb hd
  refine callsD_of_wpS Tryd.func47 rfl fun c₀ cs hu => ?_
  simp only [Tryd.ntmps47, List.size_toArray, List.length_cons, List.length_nil, Nat.reduceAdd, Nat.reduceSub, Array.replicate_succ, Array.replicate_zero, List.push_toArray, List.append_toArray, List.nil_append, List.cons_append]
  apply wpS_seq
  apply wpS_region
  simp [wpOpsS, go_sem, recoverD, hu, Exit.thenS, hta]
  refine wpS_of_wp ?_
  go_wp2
  have h1 : Blk ((((((((((w.setCell ⟨b, 0, none⟩ (.int .u32 0)).setCell ⟨b, 1, none⟩ (.int .i64 0)).setCell ⟨b, 2, none⟩ (.int .i64 0)).setCell ⟨b, 3, none⟩ (.int .i64 0)).setCell ⟨b, 4, none⟩ (.int .i64 0)).setCell ⟨b, 5, none⟩ (.int .i64 0)).setCell ⟨b, 6, none⟩ (.int .u32 0)).setCell ⟨b, 7, none⟩ (.int .i64 0)).setCell ⟨b, 8, none⟩ (.bool false)).setCell ⟨d, 0, none⟩ (.int .i64 x)) b 31 #[.int .u32 0, .int .i64 0, .int .i64 0, .int .i64 0, .int .i64 0, .int .i64 0, .int .u32 0, .int .i64 0, .bool false] := by
    have := ((((((((((HB.out.set 0 (.int .u32 0)).set 1 (.int .i64 0)).set 2 (.int .i64 0)).set 3 (.int .i64 0)).set 4 (.int .i64 0)).set 5 (.int .i64 0)).set 6 (.int .u32 0)).set 7 (.int .i64 0)).set 8 (.bool false)).far (p := ⟨d, 0, none⟩) nbd (.int .i64 x))
    simpa using this
  have h2 : Blk ((((((((((w.setCell ⟨b, 0, none⟩ (.int .u32 0)).setCell ⟨b, 1, none⟩ (.int .i64 0)).setCell ⟨b, 2, none⟩ (.int .i64 0)).setCell ⟨b, 3, none⟩ (.int .i64 0)).setCell ⟨b, 4, none⟩ (.int .i64 0)).setCell ⟨b, 5, none⟩ (.int .i64 0)).setCell ⟨b, 6, none⟩ (.int .u32 0)).setCell ⟨b, 7, none⟩ (.int .i64 0)).setCell ⟨b, 8, none⟩ (.bool false)).setCell ⟨d, 0, none⟩ (.int .i64 x)) d 36 #[.int .i64 x] := by
    have := ((((((((((HD.out.far (p := ⟨b, 0, none⟩) ndb (.int .u32 0)).far (p := ⟨b, 1, none⟩) ndb (.int .i64 0)).far (p := ⟨b, 2, none⟩) ndb (.int .i64 0)).far (p := ⟨b, 3, none⟩) ndb (.int .i64 0)).far (p := ⟨b, 4, none⟩) ndb (.int .i64 0)).far (p := ⟨b, 5, none⟩) ndb (.int .i64 0)).far (p := ⟨b, 6, none⟩) ndb (.int .u32 0)).far (p := ⟨b, 7, none⟩) ndb (.int .i64 0)).far (p := ⟨b, 8, none⟩) ndb (.bool false)).set 0 (.int .i64 x))
    simpa using this
  have h3 : ∀ k, k ≤ b → k ≤ d → Below k w ((((((((((w.setCell ⟨b, 0, none⟩ (.int .u32 0)).setCell ⟨b, 1, none⟩ (.int .i64 0)).setCell ⟨b, 2, none⟩ (.int .i64 0)).setCell ⟨b, 3, none⟩ (.int .i64 0)).setCell ⟨b, 4, none⟩ (.int .i64 0)).setCell ⟨b, 5, none⟩ (.int .i64 0)).setCell ⟨b, 6, none⟩ (.int .u32 0)).setCell ⟨b, 7, none⟩ (.int .i64 0)).setCell ⟨b, 8, none⟩ (.bool false)).setCell ⟨d, 0, none⟩ (.int .i64 x)) := fun k h1 h2 => (((((((((((Below.refl k w).setCell (p := ⟨b, 0, none⟩) h1 _).setCell (p := ⟨b, 1, none⟩) h1 _).setCell (p := ⟨b, 2, none⟩) h1 _).setCell (p := ⟨b, 3, none⟩) h1 _).setCell (p := ⟨b, 4, none⟩) h1 _).setCell (p := ⟨b, 5, none⟩) h1 _).setCell (p := ⟨b, 6, none⟩) h1 _).setCell (p := ⟨b, 7, none⟩) h1 _).setCell (p := ⟨b, 8, none⟩) h1 _).setCell (p := ⟨d, 0, none⟩) h2 _)
  generalize ((((((((((w.setCell ⟨b, 0, none⟩ (.int .u32 0)).setCell ⟨b, 1, none⟩ (.int .i64 0)).setCell ⟨b, 2, none⟩ (.int .i64 0)).setCell ⟨b, 3, none⟩ (.int .i64 0)).setCell ⟨b, 4, none⟩ (.int .i64 0)).setCell ⟨b, 5, none⟩ (.int .i64 0)).setCell ⟨b, 6, none⟩ (.int .u32 0)).setCell ⟨b, 7, none⟩ (.int .i64 0)).setCell ⟨b, 8, none⟩ (.bool false)).setCell ⟨d, 0, none⟩ (.int .i64 x)) = wz at *
  cases c₀
  simp only [bodyPostS]
  exact ⟨trivial, _, rfl, _, results_none rfl _ _ _, rfl, rfl, h1, h2, h3⟩

set_option maxHeartbeats 1000000 in
theorem expire_idle (b d : Nat) (w : World) :
    CallsD Tryd.prog 49 #[.pointer (some ⟨b, 0, none⟩), .pointer (some ⟨d, 0, none⟩)] .returning w fun e u' w' => e = .returned (.tuple #[]) ∧ u' = .returning ∧ w' = w := by
  have hta : ∀ w, (Instr.typeAssert .nilIface 20 70 true).run Tryd.prog w = .ok (.tuple #[.int .i64 0, .bool false]) w := fun _ => by kernel_rfl
  refine callsD_of_wpS Tryd.func49 rfl fun c₀ cs hu => ?_
  simp only [Tryd.ntmps49, List.size_toArray, List.length_cons, List.length_nil, Nat.reduceAdd, Nat.reduceSub, Array.replicate_succ, Array.replicate_zero, List.push_toArray, List.append_toArray, List.nil_append, List.cons_append]
  apply wpS_seq
  apply wpS_region
  simp [wpOpsS, go_sem, recoverD, hu, Exit.thenS, hta]
  refine wpS_of_wp ?_
  go_wp2
  cases c₀
  simp_all [bodyPostS, results, Tryd.results49]

set_option maxHeartbeats 2000000 in
theorem expire_pan (b d : Nat) (o0 o1 o2 o3 o4 o5 o6 o7 o8 o : Value) (x : Int) (older : List PanicEntry) (w : World) (hb : Blk w b 31 #[o0, o1, o2, o3, o4, o5, o6, o7, o8]) (hd : Blk w d 36 #[o]) (nbd : ¬ b = d) (ndb : ¬ d = b) :
    CallsD Tryd.prog 49 #[.pointer (some ⟨b, 0, none⟩), .pointer (some ⟨d, 0, none⟩)] (.panicking ({ v := .iface 70 (.int .i64 x), recovered := false } :: older)) w fun e u' w' => e = .returned (.tuple #[]) ∧ u' = .panicking ({ v := .iface 70 (.int .i64 x), recovered := true } :: older) ∧
      (Blk w' b 31 #[.int .u32 0, .int .i64 0, .int .i64 0, .int .i64 0, .int .i64 0, .int .i64 0, .int .u32 0, .int .i64 0, .bool false] ∧ Blk w' d 36 #[.int .i64 x] ∧ ∀ k, k ≤ b → k ≤ d → Below k w w') := by
  have hta : ∀ w, (Instr.typeAssert (.iface 70 (.int .i64 x)) 20 70 true).run Tryd.prog w = .ok (.tuple #[.int .i64 x, .bool true]) w := fun _ => by kernel_rfl
  have c0 := (hb).cell 0
  have c1 := (hb).cell 1
  have c2 := (hb).cell 2
  have c3 := (hb).cell 3
  have c4 := (hb).cell 4
  have c5 := (hb).cell 5
  have c6 := (hb).cell 6
  have c7 := (hb).cell 7
  have c8 := (hb).cell 8
  simp only [List.getElem?_toArray, List.getElem?_cons_zero, List.getElem?_cons_succ] at c0 c1 c2 c3 c4 c5 c6 c7 c8
  have g0 := (hd).cell 0
  simp only [List.getElem?_toArray, List.getElem?_cons_zero, List.getElem?_cons_succ] at g0
  have f0 := hb.frozen 0
  have f1 := hb.frozen 1
  have f2 := hb.frozen 2
  have f3 := hb.frozen 3
  have f4 := hb.frozen 4
  have f5 := hb.frozen 5
  have f6 := hb.frozen 6
  have f7 := hb.frozen 7
  have f8 := hb.frozen 8
  have f9 := hd.frozen 0
  have HB := Lib.hid hb
  have HD := Lib.hid hd
  clear hb hd
  refine callsD_of_wpS Tryd.func49 rfl fun c₀ cs hu => ?_
  simp only [Tryd.ntmps49, List.size_toArray, List.length_cons, List.length_nil, Nat.reduceAdd, Nat.reduceSub, Array.replicate_succ, Array.replicate_zero, List.push_toArray, List.append_toArray, List.nil_append, List.cons_append]
  apply wpS_seq
  apply wpS_region
  simp [wpOpsS, go_sem, recoverD, hu, Exit.thenS, hta]
  refine wpS_of_wp ?_
  go_wp2
  have h1 : Blk ((((((((((w.setCell ⟨b, 0, none⟩ (.int .u32 0)).setCell ⟨b, 1, none⟩ (.int .i64 0)).setCell ⟨b, 2, none⟩ (.int .i64 0)).setCell ⟨b, 3, none⟩ (.int .i64 0)).setCell ⟨b, 4, none⟩ (.int .i64 0)).setCell ⟨b, 5, none⟩ (.int .i64 0)).setCell ⟨b, 6, none⟩ (.int .u32 0)).setCell ⟨b, 7, none⟩ (.int .i64 0)).setCell ⟨b, 8, none⟩ (.bool false)).setCell ⟨d, 0, none⟩ (.int .i64 x)) b 31 #[.int .u32 0, .int .i64 0, .int .i64 0, .int .i64 0, .int .i64 0, .int .i64 0, .int .u32 0, .int .i64 0, .bool false] := by
    have := ((((((((((HB.out.set 0 (.int .u32 0)).set 1 (.int .i64 0)).set 2 (.int .i64 0)).set 3 (.int .i64 0)).set 4 (.int .i64 0)).set 5 (.int .i64 0)).set 6 (.int .u32 0)).set 7 (.int .i64 0)).set 8 (.bool false)).far (p := ⟨d, 0, none⟩) nbd (.int .i64 x))
    simpa using this
  have h2 : Blk ((((((((((w.setCell ⟨b, 0, none⟩ (.int .u32 0)).setCell ⟨b, 1, none⟩ (.int .i64 0)).setCell ⟨b, 2, none⟩ (.int .i64 0)).setCell ⟨b, 3, none⟩ (.int .i64 0)).setCell ⟨b, 4, none⟩ (.int .i64 0)).setCell ⟨b, 5, none⟩ (.int .i64 0)).setCell ⟨b, 6, none⟩ (.int .u32 0)).setCell ⟨b, 7, none⟩ (.int .i64 0)).setCell ⟨b, 8, none⟩ (.bool false)).setCell ⟨d, 0, none⟩ (.int .i64 x)) d 36 #[.int .i64 x] := by
    have := ((((((((((HD.out.far (p := ⟨b, 0, none⟩) ndb (.int .u32 0)).far (p := ⟨b, 1, none⟩) ndb (.int .i64 0)).far (p := ⟨b, 2, none⟩) ndb (.int .i64 0)).far (p := ⟨b, 3, none⟩) ndb (.int .i64 0)).far (p := ⟨b, 4, none⟩) ndb (.int .i64 0)).far (p := ⟨b, 5, none⟩) ndb (.int .i64 0)).far (p := ⟨b, 6, none⟩) ndb (.int .u32 0)).far (p := ⟨b, 7, none⟩) ndb (.int .i64 0)).far (p := ⟨b, 8, none⟩) ndb (.bool false)).set 0 (.int .i64 x))
    simpa using this
  have h3 : ∀ k, k ≤ b → k ≤ d → Below k w ((((((((((w.setCell ⟨b, 0, none⟩ (.int .u32 0)).setCell ⟨b, 1, none⟩ (.int .i64 0)).setCell ⟨b, 2, none⟩ (.int .i64 0)).setCell ⟨b, 3, none⟩ (.int .i64 0)).setCell ⟨b, 4, none⟩ (.int .i64 0)).setCell ⟨b, 5, none⟩ (.int .i64 0)).setCell ⟨b, 6, none⟩ (.int .u32 0)).setCell ⟨b, 7, none⟩ (.int .i64 0)).setCell ⟨b, 8, none⟩ (.bool false)).setCell ⟨d, 0, none⟩ (.int .i64 x)) := fun k h1 h2 => (((((((((((Below.refl k w).setCell (p := ⟨b, 0, none⟩) h1 _).setCell (p := ⟨b, 1, none⟩) h1 _).setCell (p := ⟨b, 2, none⟩) h1 _).setCell (p := ⟨b, 3, none⟩) h1 _).setCell (p := ⟨b, 4, none⟩) h1 _).setCell (p := ⟨b, 5, none⟩) h1 _).setCell (p := ⟨b, 6, none⟩) h1 _).setCell (p := ⟨b, 7, none⟩) h1 _).setCell (p := ⟨b, 8, none⟩) h1 _).setCell (p := ⟨d, 0, none⟩) h2 _)
  generalize ((((((((((w.setCell ⟨b, 0, none⟩ (.int .u32 0)).setCell ⟨b, 1, none⟩ (.int .i64 0)).setCell ⟨b, 2, none⟩ (.int .i64 0)).setCell ⟨b, 3, none⟩ (.int .i64 0)).setCell ⟨b, 4, none⟩ (.int .i64 0)).setCell ⟨b, 5, none⟩ (.int .i64 0)).setCell ⟨b, 6, none⟩ (.int .u32 0)).setCell ⟨b, 7, none⟩ (.int .i64 0)).setCell ⟨b, 8, none⟩ (.bool false)).setCell ⟨d, 0, none⟩ (.int .i64 x)) = wz at *
  cases c₀
  simp only [bodyPostS]
  exact ⟨trivial, _, rfl, _, results_none rfl _ _ _, rfl, rfl, h1, h2, h3⟩
end Go.Proofs.YtgjeejdebneoaaaDoor
