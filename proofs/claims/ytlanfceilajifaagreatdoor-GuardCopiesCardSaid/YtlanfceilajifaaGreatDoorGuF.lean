/- guard: copies, which are the same, all errors; a call by both. -/
import Derived.Test.YtlanfceilajifaaGreatDoorGuE
import Derived.Deep.CutRange
namespace Go.Proofs.YtlanfceilajifaaGreatDoor
set_option linter.unusedVariables false
set_option linter.unusedSimpArgs false
open Go.RowKit
set_option maxRecDepth 100000
theorem rowIs_new (w : World) (cs : Array Value) (t : TypeId) (n : Nat) : rowIs (w.alloc (.cells cs t)) w.heap.size n = (cs.size == n) := by
  have h := heap_alloc_new w (.cells cs t)
  unfold rowIs
  rw [h]
  simp
theorem zT_z15 : zT = z15 := rfl
theorem taC_size {L : List Int} (h : L.length = 15) : (taC L).size = 16 := by simp [taC, h]
theorem okRow_of {cs : Array Value} {n : Nat} (h : cs.size = n) (h1 : ∀ x ∈ cs, x.oneCell' = true) : okRow n cs = true := by
  subst h
  unfold okRow
  rw [Array.all_eq_true_iff_forall_mem.2 h1]
  simp
theorem taC_ok {L : List Int} (h : L.length = 15) : okRow 16 (taC L) = true :=
  okRow_of (taC_size h) fun x hx => by
    simp only [taC, List.mem_toArray, List.mem_cons, List.mem_map] at hx
    rcases hx with rfl | ⟨i, _, rfl⟩ <;> rfl
theorem cC_ok {L : List Int} {n : Nat} (h : L.length = n) : okRow n (cC L) = true :=
  okRow_of (by simp [cC, h]) fun x hx => by
    simp only [cC, List.mem_toArray, List.mem_map] at hx
    obtain ⟨i, _, rfl⟩ := hx
    rfl
theorem taC_all (L : List Int) (h : L.length = 15) : (taC L).extract 1 (1 + 15) = cC L := by
  apply Array.ext'
  simp [taC, cC]
  rw [List.take_of_length_le (by simp [h])]
theorem taC_nine (L : List Int) : (taC L).extract 1 (1 + 9) = cC (L.take 9) := by
  apply Array.ext'
  simp [taC, cC]
def ldG (a : Addr) : Sem Value := loadVar 129 a
def stG (a : Addr) (v : Value) : Sem Unit := storeVar 129 a v
def ldC (a : Addr) : Sem Value := loadVar 127 a
def ld9 (a : Addr) : Sem Value := loadVar 65 a
def st9 (a : Addr) (v : Value) : Sem Unit := storeVar 65 a v
theorem loadVar_G (a : Addr) : loadVar 129 a = ldG a := rfl
theorem storeVar_G (a : Addr) (v : Value) : storeVar 129 a v = stG a v := rfl
theorem loadVar_C (a : Addr) : loadVar 127 a = ldC a := rfl
theorem loadVar_9 (a : Addr) : loadVar 65 a = ld9 a := rfl
theorem storeVar_9 (a : Addr) (v : Value) : storeVar 65 a v = st9 a v := rfl
theorem run_ldG (w : World) (b : Nat) (h : rowOk w b 0 16 = true) : (ldG ⟨b, 0, none⟩).run Tryz.prog w = .ok (.agg (rowOf w b 0 16)) w :=
  run_ldrow 129 _ b 0 16 Tryz.underlying129 rfl (by kernel_rfl) h
theorem run_stG (w : World) (b : Nat) (cs : Array Value) (h : rowIs w b 16 = true) (hc : okRow 16 cs = true) : (stG ⟨b, 0, none⟩ (.agg cs)).run Tryz.prog w = .ok () (w.setRow b cs) :=
  run_strow 129 b 16 cs (by kernel_rfl) h hc
theorem run_ldC (w : World) (b : Nat) (h : rowOk w b 1 15 = true) : (ldC ⟨b, 1, none⟩).run Tryz.prog w = .ok (.agg (rowOf w b 1 15)) w :=
  run_ldrow 127 _ b 1 15 Tryz.underlying127 rfl (by kernel_rfl) h
theorem run_ld9 (w : World) (b o : Nat) (h : rowOk w b o 9 = true) : (ld9 ⟨b, o, none⟩).run Tryz.prog w = .ok (.agg (rowOf w b o 9)) w :=
  run_ldrow 65 _ b o 9 Tryz.underlying65 rfl (by kernel_rfl) h
theorem run_st9 (w : World) (b : Nat) (cs : Array Value) (h : rowIs w b 9 = true) (hc : okRow 9 cs = true) : (st9 ⟨b, 0, none⟩ (.agg cs)).run Tryz.prog w = .ok () (w.setRow b cs) :=
  run_strow 65 b 9 cs (by kernel_rfl) h hc
attribute [local go_sem ↓] loadVar_T storeVar_T loadVar_G storeVar_G loadVar_C loadVar_9 storeVar_9
attribute [local go_sem] run_ld16 run_st16 tF_ok tF_size run_ldG run_stG run_ldC run_ld9 run_st9

theorem gcopy_nil (w : World) : Calls Tryz.prog 31 #[.pointer none] w fun e w' => e = .returned (.pointer none) ∧ w = w' := by
  go_enter Tryz.func31, Tryz.ntmps31
  go_wp2_with fail
  refine (live_nil _).mono ?_
  rintro e w1 ⟨rfl, rfl⟩
  go_wp2_with fail
  go_ret
  exact ⟨rfl, rfl⟩
theorem gcopy_any {w : World} {g : Nat} {L : List Int} (h : Ta w g L) : Calls Tryz.prog 31 #[.pointer (some ⟨g, 0, none⟩)] w fun e w' => ∃ g', e = .returned (.pointer (some ⟨g', 0, none⟩)) ∧ w.heap.size ≤ g' ∧ Ta w' g' L ∧ Below w.heap.size w w' := by
  have c0 := h.zero
  obtain ⟨i0, i1, i2⟩ := h.blk.row (taC_size h.len)
  have y := Blk.new w 129 #[.bool false, .int .i64 0, .int .i64 0, .int .i64 0, .int .i64 0, .int .i64 0, .int .i64 0, .int .i64 0, .int .i64 0, .int .i64 0, .int .i64 0, .int .i64 0, .int .i64 0, .int .i64 0, .int .i64 0, .int .i64 0]
  obtain ⟨j0, j1, j2⟩ := y.row (n := 16) rfl
  have io := taC_ok h.len
  have h2 : Blk (w.alloc (.cells #[.bool false, .int .i64 0, .int .i64 0, .int .i64 0, .int .i64 0, .int .i64 0, .int .i64 0, .int .i64 0, .int .i64 0, .int .i64 0, .int .i64 0, .int .i64 0, .int .i64 0, .int .i64 0, .int .i64 0, .int .i64 0] 129)) g 129 (taC L) := h.blk.alloc _
  obtain ⟨k0, k1, k2⟩ := h2.row (taC_size h.len)
  have zr := y.setRow (taC L)
  have bz := below_setRow16 (b := w.heap.size) (balloc (Below.refl w.heap.size w) (.cells #[.bool false, .int .i64 0, .int .i64 0, .int .i64 0, .int .i64 0, .int .i64 0, .int .i64 0, .int .i64 0, .int .i64 0, .int .i64 0, .int .i64 0, .int .i64 0, .int .i64 0, .int .i64 0, .int .i64 0, .int .i64 0] 129)) (Nat.le_refl _) (taC L)
  have Z := Lib.hid (And.intro zr (And.intro bz (And.intro h.len h.bd)))
  clear zr bz h y h2
  go_enter Tryz.func31, Tryz.ntmps31
  go_wp2_with fail
  refine (live_any g _ c0).mono ?_
  rintro e w1 ⟨rfl, rfl⟩
  go_wp2_with fail
  go_ret
  exact ⟨w.heap.size, rfl, Nat.le_refl _, ⟨Z.out.1, Z.out.2.2.1, Z.out.2.2.2⟩, Z.out.2.1⟩

/-- an iterator over all errors: what was counted lies in a block of its own -/
def IsAll (w : World) (p : Nat → Prop) (L : List Int) (lb : Array Value) : Prop := ∃ B, lb = #[.pointer (some ⟨B, 0, none⟩)] ∧ Blk w B 65 (cC (L.take 9)) ∧ p B
theorem IsAll.fr {w w' : World} {p q r : Nat → Prop} {L : List Int} {lb : Array Value} (h : IsAll w p L lb) (hf : Fr r w w') (h1 : ∀ b, p b → b < w.heap.size → r b) (h2 : ∀ b, p b → b < w.heap.size → q b) : IsAll w' q L lb := by
  obtain ⟨B, k1, k2, k3⟩ := h
  exact ⟨B, k1, hf.blk k2 (h1 _ k3 k2.lt), h2 _ k3 k2.lt⟩
def AllP (L : List Int) (w : World) (e : Ending) (w' : World) : Prop := ∃ lb, e = .returned (.func (.func 69) #[] lb) ∧ IsAll w' (fun b => w.heap.size ≤ b) L lb ∧ Below w.heap.size w w'
theorem gall_nil (w : World) : Calls Tryz.prog 30 #[.pointer none] w (AllP z15 w) := by
  have hmf : ∀ (fn : Fn) (first cap : Array Value) (w : World), (Instr.makeFunc fn first cap).run Tryz.prog w = .ok (.func fn first cap) w := fun _ _ _ _ => rfl
  go_enter Tryz.func30, Tryz.ntmps30
  go_wp2_with fail
  refine (live_nil _).mono ?_
  rintro e w1 ⟨rfl, rfl⟩
  go_wp2_with fail
  go_ret
  exact ⟨_, rfl, ⟨_, rfl, Blk.new _ _ _, Nat.le_refl _⟩, balloc (Below.refl _ _) _⟩
theorem gall_any {w : World} {g : Nat} {L : List Int} (h : Ta w g L) : Calls Tryz.prog 30 #[.pointer (some ⟨g, 0, none⟩)] w (AllP L w) := by
  have hmf : ∀ (fn : Fn) (first cap : Array Value) (w : World), (Instr.makeFunc fn first cap).run Tryz.prog w = .ok (.func fn first cap) w := fun _ _ _ _ => rfl
  have b1 : Below w.heap.size w (w.alloc (.cells #[.int .i64 0, .int .i64 0, .int .i64 0, .int .i64 0, .int .i64 0, .int .i64 0, .int .i64 0, .int .i64 0, .int .i64 0] 65)) := balloc (Below.refl _ _) _
  have c0 := (h.below b1).zero
  have h1 := (h.below b1).blk
  obtain ⟨i1, i2⟩ := h1.mid (n := 9) 1 (by rw [taC_size h.len]; omega)
  rw [taC_nine] at i2
  have y := Blk.new w 65 #[.int .i64 0, .int .i64 0, .int .i64 0, .int .i64 0, .int .i64 0, .int .i64 0, .int .i64 0, .int .i64 0, .int .i64 0]
  obtain ⟨j0, j1, j2⟩ := y.row (n := 9) rfl
  have io : okRow 9 (cC (L.take 9)) = true := cC_ok (by simp [h.len])
  have zr := y.setRow (cC (L.take 9))
  have bz := below_setRow16 (b := w.heap.size) b1 (Nat.le_refl _) (cC (L.take 9))
  have Z := Lib.hid (And.intro zr bz)
  clear zr bz h h1 y b1
  go_enter Tryz.func30, Tryz.ntmps30
  go_wp2_with fail
  refine (live_any g _ c0).mono ?_
  rintro e w1 ⟨rfl, rfl⟩
  go_wp2_with fail
  go_ret
  exact ⟨_, rfl, ⟨_, rfl, Z.out.1, Nat.le_refl _⟩, Z.out.2⟩

theorem gsame_ln {w : World} {g : Nat} {L : List Int} (h : Ta w g L) : Calls Tryz.prog 32 #[.pointer (some ⟨g, 0, none⟩), .pointer none] w fun e w' => e = .returned (.bool false) ∧ w = w' := by
  have c0 := h.zero
  clear h
  go_enter Tryz.func32, Tryz.ntmps32
  go_wp2_with (first | ((with_reducible refine (live_any g _ c0).mono ?_); rintro e w1 ⟨rfl, rfl⟩) | ((with_reducible refine (live_nil _).mono ?_); rintro e w1 ⟨rfl, rfl⟩))
  go_ret
  exact ⟨rfl, rfl⟩
theorem gsame_nn (w : World) : Calls Tryz.prog 32 #[.pointer none, .pointer none] w fun e w' => e = .returned (.bool true) ∧ w = w' := by
  go_enter Tryz.func32, Tryz.ntmps32
  go_wp2_with (first | (refine (live_nil _).mono ?_; rintro e w1 ⟨rfl, rfl⟩))
  go_ret
  exact ⟨rfl, rfl⟩
theorem gsame_any {w : World} {g k : Nat} {L M : List Int} (h : Ta w g L) (hk : Ta w k M) : Calls Tryz.prog 32 #[.pointer (some ⟨g, 0, none⟩), .pointer (some ⟨k, 0, none⟩)] w fun e w' => e = .returned (.bool (decide (L = M))) ∧ ∃ n, w' = w.drewN n := by
  have c0 := h.zero
  have c1 := hk.zero
  have heq := fun W => eq_cC L M h.len hk.len W
  have fa : ∀ n, rowOk (w.drewN n) g 1 15 = true ∧ rowOf (w.drewN n) g 1 15 = cC L := fun n => by
    obtain ⟨i1, i2⟩ := (h.blk.drewN n).mid (n := 15) 1 (by rw [taC_size h.len]; omega)
    rw [taC_all L h.len] at i2
    exact ⟨i1, i2⟩
  have fb : ∀ n, rowOk (w.drewN n) k 1 15 = true ∧ rowOf (w.drewN n) k 1 15 = cC M := fun n => by
    obtain ⟨i1, i2⟩ := (hk.blk.drewN n).mid (n := 15) 1 (by rw [taC_size hk.len]; omega)
    rw [taC_all M hk.len] at i2
    exact ⟨i1, i2⟩
  have fa1 := fun n => (fa n).1
  have fa2 := fun n => (fa n).2
  have fb1 := fun n => (fb n).1
  have fb2 := fun n => (fb n).2
  clear h hk fa fb
  go_enter Tryz.func32, Tryz.ntmps32
  go_wp2_with (first | ((with_reducible refine (live_any g _ c0).mono ?_); rintro e w1 ⟨rfl, rfl⟩) | ((with_reducible refine (live_any k _ c1).mono ?_); rintro e w1 ⟨rfl, rfl⟩))
  go_quiet (fail)
  go_wp2
  go_ret
  exact ⟨rfl, _, rfl⟩
end Go.Proofs.YtlanfceilajifaaGreatDoor
