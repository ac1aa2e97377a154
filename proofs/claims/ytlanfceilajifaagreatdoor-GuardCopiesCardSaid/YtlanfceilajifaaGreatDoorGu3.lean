/- guard: counting, and what was counted. -/
import Derived.Test.YtlanfceilajifaaGreatDoorGu2
namespace Go.Proofs.YtlanfceilajifaaGreatDoor
set_option linter.unusedVariables false
set_option linter.unusedSimpArgs false
open Go.RowKit
set_option maxRecDepth 100000
/-- a tally's cells: made, the errors' counts, the reasons' counts -/
def taC (L : List Int) : Array Value := (Value.bool true :: L.map (Value.int .i64)).toArray
theorem taC_get (L : List Int) (k : Nat) : (taC L)[1 + k]? = (L[k]?).map (Value.int .i64) := by
  simp [taC, Nat.add_comm 1 k]
theorem taC_set (L : List Int) (k : Nat) (v : Int) : (taC L).setIfInBounds (1 + k) (.int .i64 v) = taC (L.set k v) := by
  simp [taC, Nat.add_comm 1 k, List.setIfInBounds_toArray, List.map_set]
/-- a tally lies at g -/
structure Ta (w : World) (g : Nat) (L : List Int) : Prop where
  blk : Blk w g 129 (taC L)
  len : L.length = 15
  bd : ∀ x ∈ L, 0 ≤ x ∧ x ≤ 2147483647
theorem Ta.fr {w w' : World} {g : Nat} {L : List Int} (h : Ta w g L) {p : Nat → Prop} (hf : Fr p w w') (hp : p g) : Ta w' g L := ⟨hf.blk h.blk hp, h.len, h.bd⟩
theorem Ta.below {w w' : World} {g : Nat} {L : List Int} (h : Ta w g L) (hb : Below w.heap.size w w') : Ta w' g L := ⟨h.blk.below hb h.blk.lt, h.len, h.bd⟩
theorem Ta.lt {w : World} {g : Nat} {L : List Int} (h : Ta w g L) : g < w.heap.size := h.blk.lt
theorem Ta.zero {w : World} {g : Nat} {L : List Int} (h : Ta w g L) : w.cell? ⟨g, 0, none⟩ = some (.bool true) := by
  rw [h.blk.cell 0]; rfl
theorem Ta.at {w : World} {g : Nat} {L : List Int} (h : Ta w g L) {k : Nat} {v : Int} (hv : L[k]? = some v) : w.cell? ⟨g, 1 + k, none⟩ = some (.int .i64 v) := by
  rw [h.blk.cell (1 + k), taC_get, hv]; rfl
theorem Ta.set {w : World} {g : Nat} {L : List Int} (h : Ta w g L) (k : Nat) {v : Int} (hv : 0 ≤ v ∧ v ≤ 2147483647) : Ta (w.setCell ⟨g, 1 + k, none⟩ (.int .i64 v)) g (L.set k v) := by
  refine ⟨?_, by rw [List.length_set]; exact h.len, fun x hx => ?_⟩
  · have := h.blk.set (1 + k) (.int .i64 v)
    rw [taC_set] at this
    exact this
  · rcases List.mem_or_eq_of_mem_set hx with h1 | rfl
    · exact h.bd x h1
    · exact hv
def cntE (o : Option Nat) (n : Int) : Int := if o.isSome ∧ 0 ≤ n then 0 else 2
def cntL (L : List Int) (o : Option Nat) (n : Int) : List Int := match o with
  | none => L
  | some k => if 0 ≤ n then L.set k (sumF (L.getD k 0) n) else L
def manyF (L : List Int) (o : Option Nat) : Int := match o with
  | none => 0
  | some k => L.getD k 0
/-- where a thing is counted -/
def PlaceP (what : Value) (o : Option Nat) : Prop := ∀ (g : Nat) (W : World), Calls Tryz.prog 98 #[.pointer (some ⟨g, 1, none⟩), what] W fun e w' => e = .returned (ptrO g o) ∧ Below W.heap.size W w'

set_option maxHeartbeats 1000000 in
theorem count_nil (what : Value) (n : Int) (w : World) :
    Calls Tryz.prog 65 #[.pointer none, what, .int .i64 n] w fun e w' => e = .returned (.int .i64 1) ∧ Below w.heap.size w w' := by
  have ye := Blk.new w 29 #[.int .i64 0]
  have BB : Below w.heap.size w (w.alloc (.cells #[.int .i64 0] 29)) := balloc (Below.refl _ _) _
  have Y := Lib.hid (And.intro ye BB)
  clear ye BB
  have hmf : ∀ (fn : Fn) (first cap : Array Value) (w : World), (Instr.makeFunc fn first cap).run Tryz.prog w = .ok (.func fn first cap) w := fun _ _ _ _ => rfl
  go_enter_defers Tryz.func65, Tryz.ntmps65
  go_wp2_with fail
  refine (live_nil _).mono ?_
  rintro e w1 ⟨rfl, rfl⟩
  obtain ⟨ye, BB⟩ := Y.out
  go_wp2_with fail
  refine leaves_cons (f := 97) (args := #[.pointer (some ⟨w.heap.size, 0, none⟩)]) (by simp) (by simp [go_sem]) ?_
  with_reducible refine (cnt_pan w.heap.size (.int .i64 0) 1 [] _ ye).mono ?_
  rintro e u' wz ⟨rfl, rfl, z2, z4⟩
  have u0 := (z2).cell 0
  simp only [List.getElem?_toArray, List.getElem?_cons_zero, List.getElem?_cons_succ] at u0
  have bz := BB.trans (z4 w.heap.size (by omega))
  simp [Leaves, settle, results, Tryz.results65, go_sem, u0]
  exact bz

set_option maxHeartbeats 2000000 in
theorem count_bad {w : World} {g : Nat} {L : List Int} (what : Value) (o : Option Nat) (n : Int) (h : Ta w g L) (HP : PlaceP what o) (hno : o = none ∨ n < 0) :
    Calls Tryz.prog 65 #[.pointer (some ⟨g, 0, none⟩), what, .int .i64 n] w fun e w' => e = .returned (.int .i64 2) ∧ Below w.heap.size w w' := by
  have ye := Blk.new w 29 #[.int .i64 0]
  have BB : Below w.heap.size w (w.alloc (.cells #[.int .i64 0] 29)) := balloc (Below.refl _ _) _
  have c0 := (h.below BB).zero
  have Y := Lib.hid (And.intro ye BB)
  have HPh := Lib.hid (HP g)
  clear ye BB HP
  have hmf : ∀ (fn : Fn) (first cap : Array Value) (w : World), (Instr.makeFunc fn first cap).run Tryz.prog w = .ok (.func fn first cap) w := fun _ _ _ _ => rfl
  go_enter_defers Tryz.func65, Tryz.ntmps65
  go_wp2_with fail
  refine (live_any g _ c0).mono ?_
  rintro e w1 ⟨rfl, rfl⟩
  go_wp2_with fail
  refine (HPh.out _).mono ?_
  rintro e w2 ⟨rfl, b2⟩
  obtain ⟨ye, BB⟩ := Y.out
  replace ye := ye.below b2 ye.lt
  replace BB := bnext BB b2
  clear b2 c0
  rcases o with _ | k
  case' none => simp only [ptrO]
  case' some =>
    have d1 : decide (n < 0) = true := by
      rcases hno with h | h
      · cases h
      · simpa using h
    simp only [ptrO]
  all_goals
    clear hno
    go_wp2_with fail
    refine leaves_cons (f := 97) (args := #[.pointer (some ⟨w.heap.size, 0, none⟩)]) (by simp) (by simp [go_sem]) ?_
    with_reducible refine (cnt_pan w.heap.size (.int .i64 0) 2 [] _ ye).mono ?_
    rintro e u' wz ⟨rfl, rfl, z2, z4⟩
    have u0 := (z2).cell 0
    simp only [List.getElem?_toArray, List.getElem?_cons_zero, List.getElem?_cons_succ] at u0
    have bz := BB.trans (z4 w.heap.size (by omega))
    simp [Leaves, settle, results, Tryz.results65, go_sem, u0]
    exact bz

set_option maxHeartbeats 2000000 in
theorem count_ok {w : World} {g : Nat} {L : List Int} (what : Value) (k : Nat) (n : Int) (h : Ta w g L) (HP : PlaceP what (some k)) (hk : k < 15) (hn : 0 ≤ n) :
    Calls Tryz.prog 65 #[.pointer (some ⟨g, 0, none⟩), what, .int .i64 n] w fun e w' => e = .returned (.int .i64 0) ∧ Ta w' g (L.set k (sumF (L.getD k 0) n)) ∧ Fr (fun k => k ≠ g) w w' := by
  have ye := Blk.new w 29 #[.int .i64 0]
  have BB : Below w.heap.size w (w.alloc (.cells #[.int .i64 0] 29)) := balloc (Below.refl _ _) _
  have c0 := (h.below BB).zero
  have hg := h.lt
  obtain ⟨v, hv⟩ : ∃ v, L[k]? = some v := ⟨_, List.getElem?_eq_getElem (by rw [h.len]; exact hk)⟩
  have hgd : L.getD k 0 = v := by simp [List.getD, hv]
  rw [hgd]
  have hvb := h.bd v (List.mem_of_getElem? hv)
  have HS := Lib.hid (sumF_in hvb hn)
  have Y := Lib.hid (And.intro ye (And.intro (h.below BB) BB))
  have HPh := Lib.hid (HP g)
  have HVV := Lib.hid hv
  have HPL := Lib.hid (fun (b : Nat) (W : World) (hc : W.cell? ⟨b, 0, none⟩ = some (.int .i64 n)) => plus_any v n b W hc hvb hn)
  have d1 : decide (n < 0) = false := by simpa using hn
  clear ye BB HP hgd hv hvb hn h
  have hmf : ∀ (fn : Fn) (first cap : Array Value) (w : World), (Instr.makeFunc fn first cap).run Tryz.prog w = .ok (.func fn first cap) w := fun _ _ _ _ => rfl
  go_enter_defers Tryz.func65, Tryz.ntmps65
  go_wp2_with fail
  refine (live_any g _ c0).mono ?_
  rintro e w1 ⟨rfl, rfl⟩
  go_wp2_with fail
  refine (HPh.out _).mono ?_
  rintro e w2 ⟨rfl, b2⟩
  obtain ⟨ye, yt, BB⟩ := Y.out
  replace ye := ye.below b2 ye.lt
  replace yt := yt.below b2
  replace BB := bnext BB b2
  clear b2 c0
  simp only [ptrO]
  have cv := yt.at HVV.out
  have Y2 := Lib.hid (And.intro ye (And.intro yt BB))
  clear ye yt BB
  go_wp2_with fail
  refine (HPL.out _ _ (by simp [go_sem])).mono ?_
  rintro e w3 ⟨rfl, rfl⟩
  clear cv
  obtain ⟨ye, yt, BB⟩ := Y2.out
  replace ye := ye.alloc (.cells #[.int .i64 n] 3)
  replace yt := yt.below (balloc (Below.refl _ _) (.cells #[.int .i64 n] 3))
  replace BB := balloc BB (.cells #[.int .i64 n] 3)
  generalize w2.alloc (.cells #[.int .i64 n] 3) = w3 at *
  have cv := yt.at HVV.out
  have fv := yt.blk.frozen (1 + k)
  have hne : ¬ w.heap.size = g := by omega
  have zt := yt.set k HS.out
  have zf : Fr (fun k => k ≠ g) w (w3.setCell ⟨g, 1 + k, none⟩ (.int .i64 (sumF v n))) := (Fr.of_below BB).trans (Fr.set (a := ⟨g, 1 + k, none⟩) (fun _ h => h) _)
  have ze := ye.far (p := ⟨g, 1 + k, none⟩) hne (.int .i64 (sumF v n))
  have ce := ze.cell 0
  have fe := ze.frozen 0
  have Z := Lib.hid (And.intro ze (And.intro zt zf))
  clear ye yt BB ze zt zf
  go_wp2_with fail
  refine leaves_cons (f := 97) (args := #[.pointer (some ⟨w.heap.size, 0, none⟩)]) (by simp) (by simp [go_sem]) ?_
  with_reducible refine (cnt_idle w.heap.size _).mono ?_
  rintro e u' wz ⟨rfl, rfl, rfl⟩
  obtain ⟨ze, zt, zf⟩ := Z.out
  clear cv fv ce fe
  generalize w3.setCell ⟨g, 1 + k, none⟩ (.int .i64 (sumF v n)) = w4 at *
  have z2 := (ze.set 0 (.int .i64 0)).alloc (.cells #[.int .i64 0] 178)
  simp only [List.setIfInBounds_toArray, List.set_cons_zero] at z2
  have u0 := (z2).cell 0
  simp only [List.getElem?_toArray, List.getElem?_cons_zero, List.getElem?_cons_succ] at u0
  have hle := zf.2.2.2.1
  have z3 : Ta ((w4.setCell ⟨w.heap.size, 0, none⟩ (.int .i64 0)).alloc (.cells #[.int .i64 0] 178)) g (L.set k (sumF v n)) := ⟨(zt.blk.far (p := ⟨w.heap.size, 0, none⟩) (by show g ≠ w.heap.size; omega) _).alloc _, zt.len, zt.bd⟩
  have z4 : Fr (fun k => k ≠ g) w ((w4.setCell ⟨w.heap.size, 0, none⟩ (.int .i64 0)).alloc (.cells #[.int .i64 0] 178)) := (zf.then_below ((Below.refl w.heap.size w4).setCell (p := ⟨w.heap.size, 0, none⟩) (Nat.le_refl _) _) (Nat.le_refl _)).trans (Fr.alloc _)
  simp [Leaves, settle, results, Tryz.results65, go_sem, u0]
  exact ⟨z3, z4⟩

theorem count_any {w : World} {g : Nat} {L : List Int} (what : Value) (o : Option Nat) (n : Int) (h : Ta w g L) (HP : PlaceP what o) (ho : ∀ k, o = some k → k < 15) :
    Calls Tryz.prog 65 #[.pointer (some ⟨g, 0, none⟩), what, .int .i64 n] w fun e w' => e = .returned (.int .i64 (cntE o n)) ∧ Ta w' g (cntL L o n) ∧ Fr (fun k => k ≠ g) w w' := by
  rcases o with _ | k
  · refine (count_bad what none n h HP (Or.inl rfl)).mono ?_
    rintro e w1 ⟨rfl, b1⟩
    exact ⟨rfl, h.below b1, Fr.of_below b1⟩
  by_cases hn : 0 ≤ n
  · refine (count_ok what k n h HP (ho k rfl) hn).mono ?_
    rintro e w1 ⟨rfl, h1, h2⟩
    refine ⟨?_, ?_, h2⟩
    · rw [show cntE (some k) n = 0 from if_pos ⟨rfl, hn⟩]
    · rw [show cntL L (some k) n = L.set k (sumF (L.getD k 0) n) from if_pos hn]
      exact h1
  · refine (count_bad what (some k) n h HP (Or.inr (by omega))).mono ?_
    rintro e w1 ⟨rfl, b1⟩
    refine ⟨?_, ?_, Fr.of_below b1⟩
    · rw [show cntE (some k) n = 2 from if_neg (fun q => hn q.2)]
    · rw [show cntL L (some k) n = L from if_neg hn]
      exact h.below b1

set_option maxHeartbeats 1000000 in
theorem many_nil (what : Value) (w : World) :
    Calls Tryz.prog 66 #[.pointer none, what] w fun e w' => e = .returned (.int .i64 0) ∧ Below w.heap.size w w' := by
  go_enter Tryz.func66, Tryz.ntmps66
  go_wp2_with fail
  refine (live_nil _).mono ?_
  rintro e w1 ⟨rfl, rfl⟩
  go_wp2_with fail
  go_ret
  exact ⟨rfl, Below.refl _ _⟩
set_option maxHeartbeats 1000000 in
theorem many_any {w : World} {g : Nat} {L : List Int} (what : Value) (o : Option Nat) (h : Ta w g L) (HP : PlaceP what o) (ho : ∀ k, o = some k → k < 15) :
    Calls Tryz.prog 66 #[.pointer (some ⟨g, 0, none⟩), what] w fun e w' => e = .returned (.int .i64 (manyF L o)) ∧ Below w.heap.size w w' := by
  have c0 := h.zero
  have Y := Lib.hid h
  have HPh := Lib.hid (HP g)
  clear HP
  go_enter Tryz.func66, Tryz.ntmps66
  go_wp2_with fail
  refine (live_any g _ c0).mono ?_
  rintro e w1 ⟨rfl, rfl⟩
  go_wp2_with fail
  refine (HPh.out _).mono ?_
  rintro e w2 ⟨rfl, b2⟩
  have yt := Y.out.below b2
  clear c0
  rcases o with _ | k
  · simp only [ptrO]
    clear yt
    go_wp2_with fail
    go_ret
    exact ⟨rfl, b2⟩
  · simp only [ptrO]
    have hk := ho k rfl
    obtain ⟨v, hv⟩ : ∃ v, L[k]? = some v := ⟨_, List.getElem?_eq_getElem (by rw [h.len]; exact hk)⟩
    have hgd : manyF L (some k) = v := by simp [manyF, List.getD, hv]
    have HG := Lib.hid hgd
    have cv := yt.at hv
    clear yt hgd hv hk
    go_wp2_with fail
    go_ret
    exact ⟨by rw [HG.out]; rfl, b2⟩
end Go.Proofs.YtlanfceilajifaaGreatDoor
