/- A region that draws its order, by what holds of each operation's value: whatever the order, an operation finds what it waits for. -/
import Derived.Test.YtonjaoabehkecaaDoorBase
import Derived.Orders
import Derived.Shelf.Abstract
namespace Go.Proofs.YtonjaoabehkecaaDoor
set_option linter.unusedVariables false
set_option linter.unusedSimpArgs false
open Go.RowKit
set_option linter.unusedSectionVars false

/-- the slots from lw to up hold what u says, all others what they held -/
def ovL (lw up : Nat) (u : Nat → Value) : Nat → List Value → List Value
  | _, [] => []
  | i, x :: l => (if Nat.ble lw i && Nat.ble i up then u i else x) :: ovL lw up u (i + 1) l
def upd (u : Nat → Value) (d : Nat) (v : Value) (i : Nat) : Value := if i = d then v else u i
theorem ovL_get (lw up : Nat) (u : Nat → Value) : ∀ (l : List Value) (i t : Nat), (ovL lw up u i l)[t]? = (l[t]?).map fun x => if Nat.ble lw (i + t) && Nat.ble (i + t) up then u (i + t) else x
  | [], i, t => by simp [ovL]
  | x :: l, i, 0 => by simp [ovL]
  | x :: l, i, t + 1 => by
    simp only [ovL, List.getElem?_cons_succ]
    rw [ovL_get lw up u l (i + 1) t, show i + 1 + t = i + (t + 1) by omega]
theorem ovL_self (lw up : Nat) (l : List Value) : ovL lw up (fun i => l.getD i undef) 0 l = l := by
  apply List.ext_getElem?
  intro t
  rw [ovL_get]
  cases h : l[t]? with
  | none => rfl
  | some x => simp [List.getD, h]
theorem ovL_set (lw up : Nat) (u : Nat → Value) (l : List Value) (d : Nat) (v : Value) (h1 : lw ≤ d) (h2 : d ≤ up) : (ovL lw up u 0 l).toArray.setIfInBounds d v = (ovL lw up (upd u d v) 0 l).toArray := by
  rw [List.setIfInBounds_toArray]
  congr 1
  apply List.ext_getElem?
  intro t
  rw [List.getElem?_set, ovL_get, ovL_get]
  by_cases hd : d = t
  · subst hd
    have hb : (Nat.ble lw (0 + d) && Nat.ble (0 + d) up) = true := by simp [Nat.ble_eq]; omega
    simp only [hb, if_true]
    have hlen : (ovL lw up u 0 l).length = l.length := by
      have : ∀ (l : List Value) i, (ovL lw up u i l).length = l.length := by
        intro l
        induction l with
        | nil => intro i; rfl
        | cons x l ih => intro i; simp [ovL, ih]
      exact this l 0
    rw [hlen]
    cases h : l[d]? with
    | none =>
      have : ¬ d < l.length := fun hl => by rw [List.getElem?_eq_getElem hl] at h; cases h
      simp [this]
    | some x =>
      have : d < l.length := by
        rcases Nat.lt_or_ge d l.length with h' | h'
        · exact h'
        · rw [List.getElem?_eq_none h'] at h; cases h
      simp [this, upd]
  · rw [if_neg hd]
    congr 1
    funext x
    simp only [upd, Nat.zero_add]
    rw [if_neg (fun e : t = d => hd e.symm)]
/-- a frame of which only the region's slots are open -/
def fr (lw up : Nat) (l : List Value) (ds : List Deferred) (u : Nat → Value) : Act := { tmps := (ovL lw up u 0 l).toArray, defers := ds }
section
variable {P : Program} {ops : List Oper} {Q : Exit → Act → World → Prop} {l : List Value} {ds : List Deferred} {lw up : Nat} {T : Nat → Value → World → Prop} {w0 : World}
theorem fr_in (u : Nat → Value) (t : Nat) (h1 : lw ≤ t) (h2 : t ≤ up) (h3 : t < l.length) : (fr lw up l ds u).tmps[t]? = some (u t) := by
  show (ovL lw up u 0 l).toArray[t]? = _
  rw [List.getElem?_toArray, ovL_get, List.getElem?_eq_getElem h3]
  have hb : (Nat.ble lw (0 + t) && Nat.ble (0 + t) up) = true := by simp [Nat.ble_eq]; omega
  rw [Option.map_some, if_pos hb, Nat.zero_add]
theorem fr_out (u : Nat → Value) (t : Nat) (h1 : t < lw ∨ up < t) : (fr lw up l ds u).tmps[t]? = l[t]? := by
  show (ovL lw up u 0 l).toArray[t]? = _
  rw [List.getElem?_toArray, ovL_get]
  have hb : (Nat.ble lw (0 + t) && Nat.ble (0 + t) up) = false := by
    rw [Bool.and_eq_false_iff]
    rcases h1 with h | h
    · left; rw [Bool.eq_false_iff]; intro e; have := Nat.le_of_ble_eq_true e; omega
    · right; rw [Bool.eq_false_iff]; intro e; have := Nat.le_of_ble_eq_true e; omega
  cases l[t]? with
  | none => rfl
  | some x => rw [Option.map_some, if_neg (by rw [hb]; decide)]
theorem fr_eval_in (u : Nat → Value) (t : Nat) (h1 : lw ≤ t) (h2 : t ≤ up) (h3 : t < l.length) : (fr lw up l ds u).eval (.tmp t) = u t := by
  show (fr lw up l ds u).tmps.getD t undef = _
  rw [Array.getD_eq_getD_getElem?, fr_in u t h1 h2 h3]
  rfl
theorem fr_eval_out (u : Nat → Value) (t : Nat) {v : Value} (h1 : t < lw ∨ up < t) (h3 : l[t]? = some v) : (fr lw up l ds u).eval (.tmp t) = v := by
  show (fr lw up l ds u).tmps.getD t undef = _
  rw [Array.getD_eq_getD_getElem?, fr_out u t h1, h3]
  rfl
/-- what one operation has to show -/
def StepInv (P : Program) (ops : List Oper) (Q : Exit → Act → World → Prop) (lw up : Nat) (l : List Value) (ds : List Deferred) (T : Nat → Value → World → Prop) (w0 : World) (i : Nat) (o : Oper) : Prop :=
  ∀ (u : Nat → Value) (w : World), Below w0.heap.size w0 w → (∀ e ∈ o.after, Region.binds .any e = true → ∀ oj d, ops[e.on]? = some oj → oj.dst = some d → T e.on (u d) w) →
    wpOp P ops.toArray Q i (fun a' w' => ∃ v, a' = (fr lw up l ds u).put o.dst v ∧ T i v w' ∧ Below w.heap.size w w') (fr lw up l ds u) w
def StepsInv (P : Program) (ops : List Oper) (Q : Exit → Act → World → Prop) (lw up : Nat) (l : List Value) (ds : List Deferred) (T : Nat → Value → World → Prop) (w0 : World) : Nat → List Oper → Prop
  | _, [] => True
  | i, o :: rest => StepInv P ops Q lw up l ds T w0 i o ∧ StepsInv P ops Q lw up l ds T w0 (i + 1) rest
theorem StepsInv.at {rest : List Oper} : ∀ {k : Nat}, StepsInv P ops Q lw up l ds T w0 k rest → ∀ {j : Nat} {o : Oper}, rest[j]? = some o → StepInv P ops Q lw up l ds T w0 (k + j) o := by
  induction rest with
  | nil => intro k _ j o he; simp at he
  | cons o' rest ih =>
    intro k h j o he
    cases j with
    | zero => simp only [List.getElem?_cons_zero, Option.some.injEq] at he; subst he; exact h.1
    | succ j =>
      rw [show k + (j + 1) = k + 1 + j by omega]
      exact ih h.2 (by simpa only [List.getElem?_cons_succ] using he)
/-- all slots are the region's own, and no two operations write one -/
def dstsB (lw up : Nat) : List Oper → Bool
  | [] => true
  | o :: rest => (match o.dst with | some d => Nat.ble lw d && Nat.ble d up && rest.all (fun o' => o'.dst != some d) | none => false) && dstsB lw up rest
theorem dstsB_in {ops : List Oper} : dstsB lw up ops = true → ∀ {i : Nat} {o : Oper}, ops[i]? = some o → ∃ d, o.dst = some d ∧ lw ≤ d ∧ d ≤ up := by
  induction ops with
  | nil => intro _ i o he; simp at he
  | cons o' rest ih =>
    intro h i o he
    simp only [dstsB, Bool.and_eq_true] at h
    cases i with
    | zero =>
      simp only [List.getElem?_cons_zero, Option.some.injEq] at he; subst he
      cases hd : o'.dst with
      | none => rw [hd] at h; simp at h
      | some d =>
        rw [hd] at h
        simp only [Bool.and_eq_true] at h
        exact ⟨d, rfl, Nat.le_of_ble_eq_true h.1.1.1, Nat.le_of_ble_eq_true h.1.1.2⟩
    | succ i => exact ih h.2 (by simpa only [List.getElem?_cons_succ] using he)
theorem dstsB_inj {ops : List Oper} : dstsB lw up ops = true → ∀ {i j : Nat} {o o' : Oper}, ops[i]? = some o → ops[j]? = some o' → o.dst = o'.dst → i = j := by
  induction ops with
  | nil => intro _ i j o o' he; simp at he
  | cons x rest ih =>
    intro h i j o o' ha hb he
    simp only [dstsB, Bool.and_eq_true] at h
    have key : ∀ (y : Oper) (k : Nat), rest[k]? = some y → x.dst = y.dst → False := fun y k hy e => by
      cases hd : x.dst with
      | none => rw [hd] at h; simp at h
      | some d =>
        rw [hd] at h
        simp only [Bool.and_eq_true, List.all_eq_true] at h
        have h2 := h.1.2 y (List.mem_of_getElem? hy)
        rw [← e, hd] at h2
        simp at h2
    cases i with
    | zero =>
      cases j with
      | zero => rfl
      | succ j =>
        simp only [List.getElem?_cons_zero, Option.some.injEq] at ha; subst ha
        exact (key o' j (by simpa only [List.getElem?_cons_succ] using hb) he).elim
    | succ i =>
      cases j with
      | zero =>
        simp only [List.getElem?_cons_zero, Option.some.injEq] at hb; subst hb
        exact (key o i (by simpa only [List.getElem?_cons_succ] using ha) he.symm).elim
      | succ j =>
        have e := ih h.2 (i := i) (j := j) (by simpa only [List.getElem?_cons_succ] using ha) (by simpa only [List.getElem?_cons_succ] using hb) he
        omega
/-- an operation waits for earlier ones alone -/
def depsB : Nat → List Oper → Bool
  | _, [] => true
  | k, o :: rest => o.after.all (fun e => !Region.binds .any e || Nat.blt e.on k) && depsB (k + 1) rest
theorem depsB_at {ops : List Oper} : ∀ {k : Nat}, depsB k ops = true → ∀ {i : Nat} {o : Oper}, ops[i]? = some o → ∀ e ∈ o.after, Region.binds .any e = true → e.on < k + i := by
  induction ops with
  | nil => intro k _ i o he; simp at he
  | cons o' rest ih =>
    intro k h i o he e hm hb
    simp only [depsB, Bool.and_eq_true] at h
    cases i with
    | zero =>
      simp only [List.getElem?_cons_zero, Option.some.injEq] at he; subst he
      have h1 := Array.all_eq_true_iff_forall_mem.1 h.1 e hm
      simp only [hb, Bool.not_true, Bool.false_or] at h1
      have : e.on + 1 ≤ k := by simpa [Nat.blt] using h1
      omega
    | succ i =>
      have := ih h.2 (by simpa only [List.getElem?_cons_succ] using he) e hm hb
      omega
theorem count_set {L : Array Bool} {i : Nat} (h : L.getD i true = false) : (L.setIfInBounds i true).toList.count false + 1 = L.toList.count false := by
  obtain ⟨L⟩ := L
  have hi : i < L.length := by
    rcases Nat.lt_or_ge i L.length with h' | h'
    · exact h'
    · simp [Array.getD, Nat.not_lt.2 h'] at h
  have hv : L[i] = false := by simpa [Array.getD, hi] using h
  simp only [List.setIfInBounds_toArray]
  rw [List.count_set (by exact hi)]
  have hc : 0 < L.count false := List.count_pos_iff.2 (by rw [← hv]; exact List.getElem_mem hi)
  simp [hv]
  omega
theorem ready_some {L : Array Bool} (hdep : depsB 0 ops = true) (hsz : L.size = ops.length) : ∀ (n i : Nat), i < n → i < ops.length → L.getD i true = false → Region.ready .any ops.toArray L ≠ [] := by
  intro n
  induction n with
  | zero => intro i h; omega
  | succ n ih =>
    intro i hin hil hun hr
    by_cases hall : ∀ j, j < i → L.getD j true = true
    · have hm : i ∈ Region.ready .any ops.toArray L := by
        refine mem_ready.2 ⟨hun, ops[i], by simp [hil], fun e he hb => ?_⟩
        have hlt := depsB_at hdep (List.getElem?_eq_getElem hil) e he hb
        have h1 := hall e.on (by omega)
        have hs : e.on < L.size := by omega
        simpa [Array.getD, hs] using h1
      rw [hr] at hm
      cases hm
    · obtain ⟨j, hj⟩ := Classical.not_forall.1 hall
      obtain ⟨hji, hjf⟩ := Classical.not_imp.1 hj
      exact ih j (by omega) (by omega) (by simpa using hjf) hr
theorem inv_any (hd : dstsB lw up ops = true) (hdep : depsB 0 ops = true) (hT : ∀ i v w w', T i v w → Below w.heap.size w w' → T i v w') (hs : StepsInv P ops Q lw up l ds T w0 0 ops)
    (hend : ∀ u w, Below w0.heap.size w0 w → (∀ i o d, ops[i]? = some o → o.dst = some d → T i (u d) w) → Q .normal (fr lw up l ds u) w) :
    ∀ (f : Nat) (L : Array Bool) (u : Nat → Value) (w : World), L.size = ops.length → L.toList.count false = f → Below w0.heap.size w0 w → (∀ i o d, L.getD i false = true → ops[i]? = some o → o.dst = some d → T i (u d) w) →
      wpAny P .any ops.toArray Q f L (fr lw up l ds u) w := by
  intro f
  induction f with
  | zero =>
    intro L u w hsz hc hB hI
    have hall : ∀ i, i < ops.length → L.getD i false = true ∧ L.getD i true = true := fun i hil => by
      have hn : ¬ false ∈ L.toList := fun hm => by have := List.count_pos_iff.2 hm; omega
      have hi' : i < L.size := by omega
      have : L[i] = true := by
        cases hb : L[i] with
        | true => rfl
        | false => exact absurd (by rw [← hb]; exact Array.getElem_mem_toList hi') hn
      simp [Array.getD, hi', this]
    have lt : ∀ {i : Nat} {o : Oper}, ops[i]? = some o → i < ops.length := fun {i o} ho => by
      rcases Nat.lt_or_ge i ops.length with h | h
      · exact h
      · rw [List.getElem?_eq_none h] at ho; cases ho
    refine ⟨?_, hend u w hB (fun i o d ho hdd => hI i o d (hall i (lt ho)).1 ho hdd)⟩
    rw [List.eq_nil_iff_forall_not_mem]
    intro i hm
    obtain ⟨h1, o, ho, _⟩ := mem_ready.1 hm
    rw [(hall i (lt (by simpa using ho))).2] at h1
    cases h1
  | succ f ih =>
    intro L u w hsz hc hB hI
    refine ⟨fun h0 => ?_, fun i hm => ?_⟩
    · have hf : false ∈ L.toList := List.count_pos_iff.1 (by omega)
      obtain ⟨i, hil, hv⟩ := List.mem_iff_getElem.1 hf
      have hil' : i < L.size := by simpa using hil
      exact (ready_some hdep hsz (i + 1) i (by omega) (by omega) (by simp [Array.getD, hil']; simpa using hv) h0).elim
    obtain ⟨h1, o, ho, hdp⟩ := mem_ready.1 hm
    have ho' : ops[i]? = some o := by simpa using ho
    have hst : StepInv P ops Q lw up l ds T w0 i o := by
      have h := StepsInv.at hs ho'
      rw [Nat.zero_add] at h
      exact h
    refine wpOp_mono ?_ (hst u w hB (fun e he hb oj d hj hjd => hI e.on oj d (hdp e he hb) hj hjd))
    rintro a' w' ⟨v, rfl, hv, hbw⟩
    obtain ⟨d, hod, hd1, hd2⟩ := dstsB_in hd ho'
    have ha : (fr lw up l ds u).put o.dst v = fr lw up l ds (upd u d v) := by
      rw [hod]
      show ({ tmps := (ovL lw up u 0 l).toArray.setIfInBounds d v, defers := ds } : Act) = { tmps := (ovL lw up (upd u d v) 0 l).toArray, defers := ds }
      rw [ovL_set lw up u l d v hd1 hd2]
    rw [ha]
    have hB' := bnext hB hbw
    refine ih _ _ w' (by simpa using hsz) (by have := count_set h1; omega) hB' ?_
    intro j oj dj hj hoj hdj
    by_cases hij : i = j
    · subst hij
      have : oj = o := Option.some.inj (hoj.symm.trans ho')
      subst this
      have : dj = d := Option.some.inj (hdj.symm.trans hod)
      subst this
      simpa [upd] using hv
    · have hne2 : dj ≠ d := fun e => hij (dstsB_inj hd ho' hoj (by rw [hod, hdj, e]))
      have hjL : L.getD j false = true := by
        rw [show (L.setIfInBounds i true).getD j false = L.getD j false by
          simp only [Array.getD_eq_getD_getElem?, Array.getElem?_setIfInBounds]
          rw [if_neg hij]] at hj
        exact hj
      simp only [upd, if_neg hne2]
      exact hT _ _ _ _ (hI j oj dj hjL hoj hdj) hbw
/-- a region that draws its order: from each operation's own step -/
theorem region_inv {id : Nat} {w : World} (hm : P.follows .mixedOrders = true) (hd : dstsB lw up ops = true) (hdep : depsB 0 ops = true) (hT : ∀ i v w w', T i v w → Below w.heap.size w w' → T i v w')
    (hs : StepsInv P ops Q lw up l ds T w 0 ops) (hend : ∀ u w', Below w.heap.size w w' → (∀ i o d, ops[i]? = some o → o.dst = some d → T i (u d) w') → Q .normal (fr lw up l ds u) w') :
    (Code.region id ops.toArray true).wp P Q { tmps := l.toArray, defers := ds } w := by
  refine wp_region_any hm ?_
  have h := inv_any (w0 := w) hd hdep hT hs hend ops.length (Array.replicate ops.length false) (fun i => l.getD i undef) { w with drawn := w.drawn + 1 } (by simp) (by simp) ⟨rfl, rfl, rfl, Nat.le_refl _, fun _ _ => rfl⟩ (fun i o d hL ho => by
    exfalso
    have hil : i < ops.length := by
      rcases Nat.lt_or_ge i ops.length with h | h
      · exact h
      · rw [List.getElem?_eq_none h] at ho; cases ho
    simp [Array.getD, hil] at hL)
  have ha : fr lw up l ds (fun i => l.getD i undef) = { tmps := l.toArray, defers := ds } := by
    show ({ tmps := (ovL lw up (fun i => l.getD i undef) 0 l).toArray, defers := ds } : Act) = _
    rw [ovL_self]
  rw [ha] at h
  simpa using h
/-- an operation is wanted: it has no guard, or the guard's value is known -/
inductive Wants (ops : List Oper) (lw up n : Nat) (T : Nat → Value → World → Prop) (o : Oper) : Prop
  | free (h : o.guard = none) : Wants ops lw up n T o
  | guard (g : Nat) (b : Bool) (og : Oper) (d : Nat) (e : Edge) (h : o.guard = some (g, b)) (hg : ops[g]? = some og) (hd : og.dst = some d) (h1 : lw ≤ d) (h2 : d ≤ up) (h3 : d < n) (he : e ∈ o.after) (hb : Region.binds .any e = true) (hon : e.on = g) (hT : ∀ x w, T g x w → x = .bool b) : Wants ops lw up n T o
theorem Wants.wanted {o : Oper} (h : Wants ops lw up l.length T o) {u : Nat → Value} {w : World} (hd : ∀ e ∈ o.after, Region.binds .any e = true → ∀ oj d, ops[e.on]? = some oj → oj.dst = some d → T e.on (u d) w) :
    Region.wanted o (yielded ops.toArray (fr lw up l ds u).tmps) = true := by
  cases h with
  | free h => simp [Region.wanted, h]
  | guard g b og d e h hg hdst h1 h2 h3 he hb hon hT =>
    have hv : u d = .bool b := hT _ w (by subst hon; exact hd e he hb og d hg hdst)
    have hy : yielded ops.toArray (fr lw up l ds u).tmps g = some b := by
      unfold yielded
      rw [List.getElem?_toArray, hg]
      show (match (some og |>.bind (·.dst)).bind ((fr lw up l ds u).tmps[·]?) with | some (.bool b) => some b | _ => none) = _
      simp only [Option.bind_some, hdst]
      rw [fr_in u d h1 h2 h3, hv]
    simp [Region.wanted, h, hy]
/-- a step that yields a value and leaves the world as it is -/
theorem step_val {i : Nat} {o : Oper} (v : Value) (ho : ops[i]? = some o) (hw : Wants ops lw up l.length T o)
    (h : ∀ (u : Nat → Value) (w : World), Below w0.heap.size w0 w → (∀ e ∈ o.after, Region.binds .any e = true → ∀ oj d, ops[e.on]? = some oj → oj.dst = some d → T e.on (u d) w) → ∀ ρ : Operand → Value, (∀ x, ρ x = (fr lw up l ds u).eval x) → (execOp ρ o).run P w = .ok (.value v) w ∧ T i v w) : StepInv P ops Q lw up l ds T w0 i o := by
  intro u w hB hd
  unfold wpOp
  rw [List.getElem?_toArray, ho]
  simp only [hw.wanted hd, if_true]
  obtain ⟨h1, h2⟩ := h u w hB hd (fr lw up l ds u).eval (fun _ => rfl)
  refine .inl ?_
  unfold Oper.wp
  rw [h1]
  exact ⟨v, rfl, h2, Below.refl _ _⟩
/-- a step that calls a function -/
theorem step_call {i : Nat} {o : Oper} (ho : ops[i]? = some o) (hw : Wants ops lw up l.length T o)
    (h : ∀ (u : Nat → Value) (w : World), Below w0.heap.size w0 w → (∀ e ∈ o.after, Region.binds .any e = true → ∀ oj d, ops[e.on]? = some oj → oj.dst = some d → T e.on (u d) w) → ∀ ρ : Operand → Value, (∀ x, ρ x = (fr lw up l ds u).eval x) → ∃ f args, (execOp ρ o).run P w = .ok (.enter f args) w ∧ Calls P f args w fun e w' => ∃ v, e = .returned v ∧ T i v w' ∧ Below w.heap.size w w') : StepInv P ops Q lw up l ds T w0 i o := by
  intro u w hB hd
  unfold wpOp
  rw [List.getElem?_toArray, ho]
  simp only [hw.wanted hd, if_true]
  obtain ⟨f, args, h1, h2⟩ := h u w hB hd (fr lw up l ds u).eval (fun _ => rfl)
  refine .inl ?_
  unfold Oper.wp
  rw [h1]
  refine Calls.mono h2 ?_
  rintro e w' ⟨v, rfl, h3, h4⟩
  exact ⟨v, rfl, h3, h4⟩
/-- a call of a function of the program, at the operation -/
theorem exec_call {ρ : Operand → Value} {o : Oper} {c : Call} {x : Operand} {f : FuncId} {args : Array Value} {w : World} (ho : o.op = .call c) (hc : c.callee = .value x) (hf : ρ x = .func (.func f) #[] #[]) (ha : c.args.map ρ = args) (he : (callFunc f args).run P w = .ok (.enter f args) w) : (execOp ρ o).run P w = .ok (.enter f args) w := by
  unfold execOp
  simp only [ho, resolve, hc, hf, ha]
  simp [Deferred.ofValue, invoke, he]
end
end Go.Proofs.YtonjaoabehkecaaDoor
