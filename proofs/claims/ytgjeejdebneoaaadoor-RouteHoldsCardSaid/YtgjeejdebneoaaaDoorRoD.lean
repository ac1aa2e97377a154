/- route: the steps of a route's life; Life; the document's Life. -/
import Derived.Test.YtgjeejdebneoaaaDoorRoA
import Derived.Test.YtgjeejdebneoaaaDoorRoC
import Derived.Deep.CutRange
namespace Go.Proofs.YtgjeejdebneoaaaDoor
set_option linter.unusedVariables false
set_option linter.unusedSimpArgs false
open Go.RowKit
set_option maxRecDepth 100000
theorem step_info : (Tryd.prog.info? 80).map (fun i => (i.zero, i.size, i.bytes)) = some (some (.agg #[.int .i64 0, .int .u32 0, .int .i64 0, .int .i64 0, .int .i64 0, .int .i64 0, .int .i64 0, .int .u32 0, .int .i64 0, .bool false]), 10, 80) := by kernel_rfl
theorem turn_info : (Tryd.prog.info? 49).map (fun i => (i.zero, i.size, i.bytes)) = some (some (.agg #[.int .i64 0, .int .u32 0, .int .i64 0, .int .i64 0, .int .i64 0, .int .i64 0, .int .i64 0, .int .u32 0, .int .i64 0, .bool false]), 10, 80) := by kernel_rfl
/-- the cells of steps -/
def stR (y : Int × Rt) : List Value := [.int .i64 y.1, .int .u32 y.2.a, .int .i64 y.2.m, .int .i64 y.2.st, .int .i64 y.2.me, .int .i64 y.2.lo, .int .i64 y.2.fa, .int .u32 y.2.nx, .int .i64 y.2.du, .bool y.2.ch]
def stC (l : List (Int × Rt)) : List Value := l.flatMap stR
theorem stC_append (l m : List (Int × Rt)) : stC (l ++ m) = stC l ++ stC m := by simp [stC]
theorem stC_len (l : List (Int × Rt)) : (stC l).length = l.length * 10 := by
  induction l with
  | nil => rfl
  | cons x l ih => simp only [stC, List.flatMap_cons, List.length_append, List.length_cons] at ih ⊢; rw [ih]; simp [stR]; omega
theorem stC_get (l : List (Int × Rt)) : ∀ (i : Nat) (y : Int × Rt), l[i]? = some y → ∀ j, j < 10 → (stC l)[i * 10 + j]? = (stR y)[j]? := by
  induction l with
  | nil => intro i y h; simp at h
  | cons x l ih =>
    intro i y h j hj
    have hc : stC (x :: l) = stR x ++ stC l := by simp [stC]
    rw [hc]
    cases i with
    | zero =>
      simp only [List.getElem?_cons_zero, Option.some.injEq] at h
      subst h
      rw [Nat.zero_mul, Nat.zero_add, List.getElem?_append_left (by simp [stR]; omega)]
    | succ i =>
      simp only [List.getElem?_cons_succ] at h
      rw [List.getElem?_append_right (by simp [stR]; omega)]
      rw [show (i + 1) * 10 + j - (stR x).length = i * 10 + j by simp [stR]; omega]
      exact ih i y h j hj
theorem stC_one (l : List (Int × Rt)) : ∀ u ∈ stC l, u.oneCell' = true := by
  intro u hu
  simp only [stC, List.mem_flatMap] at hu
  obtain ⟨y, _, hy⟩ := hu
  simp only [stR, List.mem_cons, List.not_mem_nil, or_false] at hy
  rcases hy with rfl | rfl | rfl | rfl | rfl | rfl | rfl | rfl | rfl | rfl <;> rfl
theorem stR_one (y : Int × Rt) : ∀ u ∈ stR y, u.oneCell' = true := by
  have := stC_one [y]
  simpa [stC] using this

/-- how many times a state is due -/
def rkS (st : Int) : Nat := if st = 2 then 3 else if st = 3 then 2 else if st = 4 then 1 else 0
/-- the steps of a route's life -/
def lifeS (h g : Int) (oc : Bool) : Nat → Rt → List (Int × Rt)
  | 0, _ => []
  | k + 1, r => if timF r.st = true ∧ askR (oc && okRt r) r.du = 0 then (r.du, expR h g r r.du) :: lifeS h g oc k (expR h g r r.du) else []
theorem lifeS_no {h g : Int} {oc : Bool} {k : Nat} {r : Rt} (hn : ¬ (timF r.st = true ∧ askR (oc && okRt r) r.du = 0)) : lifeS h g oc k r = [] := by
  cases k with
  | zero => rfl
  | succ k => exact if_neg hn
theorem lifeS_len (h g : Int) (oc : Bool) : ∀ (k : Nat) (r : Rt), (lifeS h g oc k r).length ≤ k := by
  intro k
  induction k with
  | zero => intro r; simp [lifeS]
  | succ k ih =>
    intro r
    unfold lifeS
    split
    · simp only [List.length_cons]; have := ih (expR h g r r.du); omega
    · simp
theorem tim_cases {st : Int} (ht : timF st = true) : st = 2 ∨ st = 3 ∨ st = 4 := by
  simp [timF] at ht
  omega
theorem exp_rk (h g : Int) (r : Rt) (ht : timF r.st = true) : rkS (expR h g r r.du).st + 1 = rkS r.st := by
  have hno : ¬ (timF r.st = false ∨ r.du < r.du) := by
    rintro (e | e)
    · rw [ht] at e; cases e
    · omega
  unfold expR
  rw [if_neg hno]
  rcases tim_cases ht with e | e | e
  · rw [if_pos e, e]; rfl
  · rw [if_neg (by omega), if_pos e, e]; rfl
  · rw [if_neg (by omega), if_neg (by omega), e]; rfl
theorem tim_rk {st : Int} (ht : timF st = true) : 1 ≤ rkS st := by
  rcases tim_cases ht with rfl | rfl | rfl <;> decide
theorem exp_an (h g : Int) (r : Rt) (now : Int) (ha : r.a < 4294967296) (hx : r.nx < 4294967296) : (expR h g r now).a < 4294967296 ∧ (expR h g r now).nx < 4294967296 := by
  unfold expR
  split
  · exact ⟨ha, hx⟩
  split
  · exact ⟨ha, hx⟩
  split
  · exact ⟨ha, hx⟩
  · exact ⟨ha, by show (0 : Nat) < 4294967296; decide⟩
theorem own_bel {w w' : World} {base size n : Nat} {e : TypeId} {v : Value} {xs : List Value} (q : w.ownsRow base e size v n xs) (hb : Below w.heap.size w w') : w'.ownsRow base e size v n xs := q.kept (row := none) ⟨hb.1, hb.2, hb.3, hb.size, fun k hk _ => hb.block k hk⟩ (by cases v.ownBlock <;> simp)

theorem grown_blk {w w' : World} {row : Option Nat} {b : Nat} {t : TypeId} {cs : Array Value} (q : w.grownBy w' row) (hb : Blk w b t cs) (hne : some b ≠ row) : Blk w' b t cs := (q.block b hb.lt hne).trans hb
theorem own_store {w : World} {base size n : Nat} {e : TypeId} {v : Value} {xs : List Value} (q : w.ownsRow base e size v n xs) {b i : Nat} {u : Value} (hb : ∀ j, v.ownBlock = some j → j ≠ b) : (w.setCell ⟨b, i, none⟩ u).ownsRow base e size v n xs :=
  q.kept (row := some b) ⟨rfl, rfl, rfl, by simp, fun k hk hne => Below.heap_setCell w ⟨b, i, none⟩ u k (fun e => hne (by rw [e]))⟩ (by
    cases hv : v.ownBlock with
    | none => exact .inl rfl
    | some j => exact .inr (fun e => hb j hv (Option.some.inj e)))
theorem own_store9 {w : World} {base size n : Nat} {e : TypeId} {v : Value} {xs : List Value} (q : w.ownsRow base e size v n xs) {b : Nat} (hb : ∀ j, v.ownBlock = some j → j ≠ b) (v0 v1 v2 v3 v4 v5 v6 v7 v8 : Value) : (((((((((w.setCell ⟨b, 0, none⟩ v0).setCell ⟨b, 1, none⟩ v1).setCell ⟨b, 2, none⟩ v2).setCell ⟨b, 3, none⟩ v3).setCell ⟨b, 4, none⟩ v4).setCell ⟨b, 5, none⟩ v5).setCell ⟨b, 6, none⟩ v6).setCell ⟨b, 7, none⟩ v7).setCell ⟨b, 8, none⟩ v8).ownsRow base e size v n xs :=
  (own_store (own_store (own_store (own_store (own_store (own_store (own_store (own_store (own_store q hb) hb) hb) hb) hb) hb) hb) hb) hb)

/-- what stands behind an append to the steps, and the stores behind it -/
theorem life_keep {w W0 w3 : World} {o : Obj} {t1 t2 t3 e1 : TypeId} {b0 gl nb K sz n1 : Nat} {cl cc cn : Array Value} {v u v1 : Value} {xs : List Value}
    (hg1 : (W0.alloc o).grownBy w3 v.ownBlock) (yl : Blk W0 gl t1 cl) (yb : Blk W0 b0 t2 #[u]) (yc : Blk W0 w.heap.size t3 cc) (yn : Blk W0 nb e1 cn) (BB : Below w.heap.size w W0)
    (hvn : ∀ j, v.ownBlock = some j → j ≠ gl) (hlo : ∀ j, v.ownBlock = some j → K ≤ j) (hup : ∀ j, v.ownBlock = some j → j ≠ nb) (hK : w.heap.size < K) (hb0 : b0 < K) (hwb : w.heap.size < b0) (hgl : K ≤ gl)
    {e2 : TypeId} (ho1 : w3.ownsRow K e2 sz v1 n1 xs) (ha1 : v1.ownBlock = v.ownBlock ∨ v1.ownBlock = some (W0.alloc o).heap.size) (hws : w.heap.size ≤ W0.heap.size) (x0 x1 x2 x3 x4 x5 x6 x7 x8 : Value) :
    Blk w3 b0 t2 #[u] ∧ Blk w3 gl t1 cl ∧ Blk w3 nb e1 cn ∧ Blk ((((((((((w3.setCell ⟨b0, 0, none⟩ v1).setCell ⟨gl, 0, none⟩ x0).setCell ⟨gl, 1, none⟩ x1).setCell ⟨gl, 2, none⟩ x2).setCell ⟨gl, 3, none⟩ x3).setCell ⟨gl, 4, none⟩ x4).setCell ⟨gl, 5, none⟩ x5).setCell ⟨gl, 6, none⟩ x6).setCell ⟨gl, 7, none⟩ x7).setCell ⟨gl, 8, none⟩ x8) b0 t2 #[v1] ∧ ((((((((((w3.setCell ⟨b0, 0, none⟩ v1).setCell ⟨gl, 0, none⟩ x0).setCell ⟨gl, 1, none⟩ x1).setCell ⟨gl, 2, none⟩ x2).setCell ⟨gl, 3, none⟩ x3).setCell ⟨gl, 4, none⟩ x4).setCell ⟨gl, 5, none⟩ x5).setCell ⟨gl, 6, none⟩ x6).setCell ⟨gl, 7, none⟩ x7).setCell ⟨gl, 8, none⟩ x8).ownsRow K e2 sz v1 n1 xs ∧ Blk ((((((((((w3.setCell ⟨b0, 0, none⟩ v1).setCell ⟨gl, 0, none⟩ x0).setCell ⟨gl, 1, none⟩ x1).setCell ⟨gl, 2, none⟩ x2).setCell ⟨gl, 3, none⟩ x3).setCell ⟨gl, 4, none⟩ x4).setCell ⟨gl, 5, none⟩ x5).setCell ⟨gl, 6, none⟩ x6).setCell ⟨gl, 7, none⟩ x7).setCell ⟨gl, 8, none⟩ x8) w.heap.size t3 cc ∧ Below w.heap.size w ((((((((((w3.setCell ⟨b0, 0, none⟩ v1).setCell ⟨gl, 0, none⟩ x0).setCell ⟨gl, 1, none⟩ x1).setCell ⟨gl, 2, none⟩ x2).setCell ⟨gl, 3, none⟩ x3).setCell ⟨gl, 4, none⟩ x4).setCell ⟨gl, 5, none⟩ x5).setCell ⟨gl, 6, none⟩ x6).setCell ⟨gl, 7, none⟩ x7).setCell ⟨gl, 8, none⟩ x8) := by
  have hne : ∀ {b : Nat}, (∀ j, v.ownBlock = some j → j ≠ b) → some b ≠ v.ownBlock := fun hq e => hq _ e.symm rfl
  have y3 := grown_blk hg1 (yb.alloc o) (hne fun j hj => by have := hlo j hj; omega)
  have yl3 := grown_blk hg1 (yl.alloc o) (hne hvn)
  have yn3 := grown_blk hg1 (yn.alloc o) (hne hup)
  have yc3 := grown_blk hg1 (yc.alloc o) (hne fun j hj => by have := hlo j hj; omega)
  have B3 : Below w.heap.size w w3 := (balloc BB o).grown hg1 (by simp; omega) (fun j hj => by have := hlo j hj; omega)
  have hv1 : ∀ j, v1.ownBlock = some j → j ≠ gl := fun j hj => by
    rcases ha1 with e | e
    · exact hvn j (e ▸ hj)
    · rw [e] at hj
      have := yl.lt
      simp at hj
      omega
  have hv2 : ∀ j, v1.ownBlock = some j → j ≠ b0 := fun j hj => by have := (ho1.lt j hj).1; omega
  refine ⟨y3, yl3, yn3, ?_, own_store9 (own_store ho1 hv2) hv1 x0 x1 x2 x3 x4 x5 x6 x7 x8, ?_, put9_below (b := gl) (B3.setCell (p := ⟨b0, 0, none⟩) (by show w.heap.size ≤ b0; omega) v1) (by omega) x0 x1 x2 x3 x4 x5 x6 x7 x8⟩
  · have q := y3.set 0 v1
    simp only [List.setIfInBounds_toArray, List.set_cons_zero] at q
    exact put9_far (b := gl) q (by omega) x0 x1 x2 x3 x4 x5 x6 x7 x8
  · exact put9_far (b := gl) (yc3.far (p := ⟨b0, 0, none⟩) (by show ¬ w.heap.size = b0; omega) v1) (by omega) x0 x1 x2 x3 x4 x5 x6 x7 x8
theorem rd_new1 (w : World) (o : Obj) (t : TypeId) (xs : List Value) : Rd ((w.alloc o).alloc (.cells xs.toArray t)) (w.heap.size + 1 + 1) (some ⟨w.heap.size + 1, 0, none⟩) xs := by
  have := Rd.new (w.alloc o) t xs
  simpa only [World.size_alloc] using this

def rkM (wr : World) : Value → Nat
  | .pointer (some ⟨b, 0, none⟩) => match wr.cell? ⟨b, 2, none⟩ with
    | some (.int _ st) => rkS st
    | _ => 0
  | _ => 0
theorem rkM_of {wr : World} {b : Nat} {st : Int} (hc : wr.cell? ⟨b, 2, none⟩ = some (.int .i64 st)) : rkM wr (.pointer (some ⟨b, 0, none⟩)) = rkS st := by
  simp [rkM, hc]
/-- what Life hands back: a function, and in a box the steps -/
def IsLife (w : World) (ys : List (Int × Rt)) (lb : Array Value) : Prop :=
  ∃ Bl A c, lb = #[.pointer (some ⟨Bl, 0, none⟩)] ∧ Blk w Bl 76 #[.slice A ys.length c] ∧ ys.length ≤ c ∧ c ≤ maxLen ∧ Rd w w.heap.size A (stC ys)
theorem IsLife.below {w w' : World} {ys : List (Int × Rt)} {lb : Array Value} (q : IsLife w ys lb) (hb : Below w.heap.size w w') : IsLife w' ys lb := by
  obtain ⟨Bd, A, c, e, h2, h3, h4, h5⟩ := q
  exact ⟨Bd, A, c, e, h2.below hb h2.lt, h3, h4, (h5.below hb).more hb.size⟩

set_option maxHeartbeats 4000000 in
theorem life_any (p j t h g q s cp : Int) (A : Option Addr) (n k B : Nat) (l : List (Nat × Int)) (hn : l.length = n) (a : Nat) (m st me lo fa : Int) (nx : Nat) (du : Int) (ch : Bool) (w : World) (hr : Rd w B A (plC l)) (hB : B ≤ w.heap.size) (hnk : n ≤ k) (hk : k ≤ 9223372036854775807) (hl : ∀ x ∈ l, x.1 < 4294967296) (hw : CapsAt w) (ha : a < 4294967296) (hx : nx < 4294967296) :
    Calls Tryd.prog 15 #[.agg #[.int .i64 p, .int .i64 j, .int .i64 t, .int .i64 h, .int .i64 g, .int .i64 q, .int .i64 s, .int .i64 cp, .slice A n k], .agg #[.int .u32 a, .int .i64 m, .int .i64 st, .int .i64 me, .int .i64 lo, .int .i64 fa, .int .u32 nx, .int .i64 du, .bool ch]] w fun e w' => ∃ lb, e = .returned (.func (.func 39) #[] lb) ∧ IsLife w' (lifeS h g (okC p j t h g q s cp l) 3 ⟨a, m, st, me, lo, fa, nx, du, ch⟩) lb ∧ Below w.heap.size w w' := by
  have hmf : ∀ (fn : Fn) (first cap : Array Value) (w : World), (Instr.makeFunc fn first cap).run Tryd.prog w = .ok (.func fn first cap) w := fun _ _ _ _ => rfl
  obtain ⟨i0, hi0, hz0, hz1, hz2⟩ := info_parts step_info
  have HX := Lib.hid (fun (a1 : Nat) (m1 st1 me1 lo1 fa1 : Int) (nx1 : Nat) (du1 : Int) (ch1 : Bool) W (hW : Below w.heap.size w W) (ha1 : a1 < 4294967296) (hx1 : nx1 < 4294967296) => expire_any p j t h g q s cp A n k B l hn a1 m1 st1 me1 lo1 fa1 nx1 du1 ch1 du1 W (hr.below (hW.mono hB)) (by have := hW.size; omega) hnk hk hl (hw.below hW) ha1 hx1)
  have HI := Lib.hid (fun (a1 : Nat) (m1 st1 me1 lo1 fa1 : Int) (nx1 : Nat) (du1 : Int) (ch1 : Bool) W => isTimed_any a1 m1 st1 me1 lo1 fa1 nx1 du1 ch1 W)
  have AN := Lib.hid (And.intro ha hx)
  clear hr hl hw hn hB hnk ha hx
  generalize okC p j t h g q s cp l = oc at *
  have z0 := (((Blk.new w 24 #[.int .i64 p, .int .i64 j, .int .i64 t, .int .i64 h, .int .i64 g, .int .i64 q, .int .i64 s, .int .i64 cp, .slice A n k]).alloc (.cells #[.int .u32 a, .int .i64 m, .int .i64 st, .int .i64 me, .int .i64 lo, .int .i64 fa, .int .u32 nx, .int .i64 du, .bool ch] 31)).alloc (.cells #[.slice none 0 0] 76)).alloc (.cells #[.int .u32 a, .int .i64 m, .int .i64 st, .int .i64 me, .int .i64 lo, .int .i64 fa, .int .u32 nx, .int .i64 du, .bool ch] 78)
  have z2 := (Blk.new ((w.alloc (.cells #[.int .i64 p, .int .i64 j, .int .i64 t, .int .i64 h, .int .i64 g, .int .i64 q, .int .i64 s, .int .i64 cp, .slice A n k] 24)).alloc (.cells #[.int .u32 a, .int .i64 m, .int .i64 st, .int .i64 me, .int .i64 lo, .int .i64 fa, .int .u32 nx, .int .i64 du, .bool ch] 31)) 76 #[.slice none 0 0]).alloc (.cells #[.int .u32 a, .int .i64 m, .int .i64 st, .int .i64 me, .int .i64 lo, .int .i64 fa, .int .u32 nx, .int .i64 du, .bool ch] 78)
  have z3 := Blk.new (((w.alloc (.cells #[.int .i64 p, .int .i64 j, .int .i64 t, .int .i64 h, .int .i64 g, .int .i64 q, .int .i64 s, .int .i64 cp, .slice A n k] 24)).alloc (.cells #[.int .u32 a, .int .i64 m, .int .i64 st, .int .i64 me, .int .i64 lo, .int .i64 fa, .int .u32 nx, .int .i64 du, .bool ch] 31)).alloc (.cells #[.slice none 0 0] 76)) 78 #[.int .u32 a, .int .i64 m, .int .i64 st, .int .i64 me, .int .i64 lo, .int .i64 fa, .int .u32 nx, .int .i64 du, .bool ch]
  simp only [World.size_alloc] at z2 z3
  have B0 : Below w.heap.size w ((((w.alloc (.cells #[.int .i64 p, .int .i64 j, .int .i64 t, .int .i64 h, .int .i64 g, .int .i64 q, .int .i64 s, .int .i64 cp, .slice A n k] 24)).alloc (.cells #[.int .u32 a, .int .i64 m, .int .i64 st, .int .i64 me, .int .i64 lo, .int .i64 fa, .int .u32 nx, .int .i64 du, .bool ch] 31)).alloc (.cells #[.slice none 0 0] 76)).alloc (.cells #[.int .u32 a, .int .i64 m, .int .i64 st, .int .i64 me, .int .i64 lo, .int .i64 fa, .int .u32 nx, .int .i64 du, .bool ch] 78)) := balloc (balloc (balloc (balloc (Below.refl _ _) _) _) _) _
  have ZZ := Lib.hid (And.intro z0 (And.intro z2 (And.intro z3 B0)))
  clear z0 z2 z3 B0
  go_enter Tryd.func15, Tryd.ntmps15
  go_wp2_with fail
  generalize ((((w.alloc (.cells #[.int .i64 p, .int .i64 j, .int .i64 t, .int .i64 h, .int .i64 g, .int .i64 q, .int .i64 s, .int .i64 cp, .slice A n k] 24)).alloc (.cells #[.int .u32 a, .int .i64 m, .int .i64 st, .int .i64 me, .int .i64 lo, .int .i64 fa, .int .u32 nx, .int .i64 du, .bool ch] 31)).alloc (.cells #[.slice none 0 0] 76)).alloc (.cells #[.int .u32 a, .int .i64 m, .int .i64 st, .int .i64 me, .int .i64 lo, .int .i64 fa, .int .u32 nx, .int .i64 du, .bool ch] 78)) = W0 at *
  go_loopw [6] (fun pp wr => ∃ (gl : Nat) (a1 : Nat) (m1 st1 me1 lo1 fa1 : Int) (nx1 : Nat) (du1 : Int) (ch1 : Bool) (ys : List (Int × Rt)) (kk : Nat) (v : Value),
      pp = .pointer (some ⟨gl, 0, none⟩) ∧ Blk wr gl 78 #[.int .u32 a1, .int .i64 m1, .int .i64 st1, .int .i64 me1, .int .i64 lo1, .int .i64 fa1, .int .u32 nx1, .int .i64 du1, .bool ch1] ∧ w.heap.size + 3 ≤ gl ∧ (∀ j, v.ownBlock = some j → j ≠ gl) ∧
      Blk wr (w.heap.size + 1 + 1) 76 #[v] ∧ wr.ownsRow (w.heap.size + 3) 80 10 v ys.length (stC ys) ∧ Blk wr w.heap.size 24 #[.int .i64 p, .int .i64 j, .int .i64 t, .int .i64 h, .int .i64 g, .int .i64 q, .int .i64 s, .int .i64 cp, .slice A n k] ∧ Below w.heap.size w wr ∧
      a1 < 4294967296 ∧ nx1 < 4294967296 ∧ Hid (lifeS h g oc 3 ⟨a, m, st, me, lo, fa, nx, du, ch⟩ = ys ++ lifeS h g oc kk ⟨a1, m1, st1, me1, lo1, fa1, nx1, du1, ch1⟩ ∧ ys.length + kk = 3 ∧ rkS st1 ≤ kk)) (fun pp wr => rkM wr pp)
  case atStart =>
    exact ⟨_, a, m, st, me, lo, fa, nx, du, ch, [], 3, .slice none 0 0, rfl, ZZ.out.2.2.1, by omega, by simp [Value.ownBlock], ZZ.out.2.1, World.ownsRow_nil _ _ _ _, ZZ.out.1, ZZ.out.2.2.2, AN.out.1, AN.out.2, Lib.hid ⟨rfl, rfl, by unfold rkS; split <;> (try split) <;> (try split) <;> omega⟩⟩
  case round =>
    obtain ⟨gl, a1, m1, st1, me1, lo1, fa1, nx1, du1, ch1, ys, kk, v, rfl, yl, hgl, hvn, yb, yo, yc, BB, ha1, hx1, HF⟩ := hrel
    have hM0 := Lib.hid (rkM_of (show wr.cell? ⟨gl, 2, none⟩ = some (.int .i64 st1) from yl.cell 2))
    have hgw := yl.lt
    have Y := Lib.hid (And.intro yl (And.intro hvn (And.intro yb (And.intro yo (And.intro yc (And.intro BB (And.intro ha1 hx1)))))))
    have c0 := (yl).cell 0
    have c1 := (yl).cell 1
    have c2 := (yl).cell 2
    have c3 := (yl).cell 3
    have c4 := (yl).cell 4
    have c5 := (yl).cell 5
    have c6 := (yl).cell 6
    have c7 := (yl).cell 7
    have c8 := (yl).cell 8
    simp only [List.getElem?_toArray, List.getElem?_cons_zero, List.getElem?_cons_succ] at c0 c1 c2 c3 c4 c5 c6 c7 c8
    clear yl hvn yb yo yc BB ha1 hx1
    cases ht : timF st1
    · have HI1 := Lib.hid (HI.out a1 m1 st1 me1 lo1 fa1 nx1 du1 ch1)
      rw [ht] at HI1
      have HT := Lib.hid ht
      clear ht
      go_wp2_with fail
      refine (HI1.out _).mono ?_
      rintro e w1 ⟨rfl, b1⟩
      obtain ⟨yl, hvn, yb, yo, yc, BB, ha1, hx1⟩ := Y.out
      replace yb := yb.below b1 yb.lt
      have yo1 := own_bel yo b1
      replace BB := bnext BB b1
      clear b1 yl yc
      go_wp2_with fail
      go_ret
      have hys : lifeS h g oc 3 ⟨a, m, st, me, lo, fa, nx, du, ch⟩ = ys := by
        rw [HF.out.1, lifeS_no (by rintro ⟨e, _⟩; rw [show timF _ = _ from HT.out] at e; cases e), List.append_nil]
      obtain ⟨A1, c1, rfl, h1, h2, h3, _⟩ := own_row yo1
      rw [hys]
      exact ⟨_, rfl, ⟨_, A1, c1, rfl, yb, h1, h2, h3⟩, BB⟩
    · have HI1 := Lib.hid (HI.out a1 m1 st1 me1 lo1 fa1 nx1 du1 ch1)
      rw [ht] at HI1
      have HT := Lib.hid ht
      clear ht
      go_wp2_with fail
      refine (HI1.out _).mono ?_
      rintro e w1 ⟨rfl, b1⟩
      obtain ⟨yl, hvn, yb, yo, yc, BB, ha1, hx1⟩ := Y.out
      replace yl := yl.below b1 yl.lt
      replace yb := yb.below b1 yb.lt
      replace yo := own_bel yo b1
      replace yc := yc.below b1 yc.lt
      replace BB := bnext BB b1
      have YO := Lib.hid yo
      have HE := Lib.hid (HX.out a1 m1 st1 me1 lo1 fa1 nx1 du1 ch1 w1 BB ha1 hx1)
      have hs1 := b1.size
      have han := exp_an h g ⟨a1, m1, st1, me1, lo1, fa1, nx1, du1, ch1⟩ du1 ha1 hx1
      have Y1 := Lib.hid (And.intro yl (And.intro hvn (And.intro yb (And.intro yo (And.intro yc (And.intro BB han))))))
      clear c0 c1 c2 c3 c4 c5 c6 c7 c8
      have c0 := (yl).cell 0
      have c1 := (yl).cell 1
      have c2 := (yl).cell 2
      have c3 := (yl).cell 3
      have c4 := (yl).cell 4
      have c5 := (yl).cell 5
      have c6 := (yl).cell 6
      have c7 := (yl).cell 7
      have c8 := (yl).cell 8
      simp only [List.getElem?_toArray, List.getElem?_cons_zero, List.getElem?_cons_succ] at c0 c1 c2 c3 c4 c5 c6 c7 c8
      have k0 := (yc).cell 0
      have k1 := (yc).cell 1
      have k2 := (yc).cell 2
      have k3 := (yc).cell 3
      have k4 := (yc).cell 4
      have k5 := (yc).cell 5
      have k6 := (yc).cell 6
      have k7 := (yc).cell 7
      have k8 := (yc).cell 8
      simp only [List.getElem?_toArray, List.getElem?_cons_zero, List.getElem?_cons_succ] at k0 k1 k2 k3 k4 k5 k6 k7 k8
      clear yl hvn yb yo yc BB ha1 hx1 han b1
      obtain ⟨er, her⟩ : ∃ er, er = askR (oc && okR a1 m1 st1 me1 lo1 fa1 nx1 du1 ch1) du1 := ⟨_, rfl⟩
      rw [← her] at HE
      have HER := Lib.hid her
      clear her
      by_cases h0 : er = 0
      · subst h0
        obtain ⟨⟨a2, m2, st2, me2, lo2, fa2, nx2, du2, ch2⟩, hr2⟩ : ∃ r2, r2 = expR h g ⟨a1, m1, st1, me1, lo1, fa1, nx1, du1, ch1⟩ du1 := ⟨_, rfl⟩
        have HE2 : Hid (Calls Tryd.prog 24 #[.agg #[.int .i64 p, .int .i64 j, .int .i64 t, .int .i64 h, .int .i64 g, .int .i64 q, .int .i64 s, .int .i64 cp, .slice A n k], .agg #[.int .u32 a1, .int .i64 m1, .int .i64 st1, .int .i64 me1, .int .i64 lo1, .int .i64 fa1, .int .u32 nx1, .int .i64 du1, .bool ch1], .int .i64 du1] w1 fun e w' => e = .returned (.tuple #[.agg #[.int .u32 a2, .int .i64 m2, .int .i64 st2, .int .i64 me2, .int .i64 lo2, .int .i64 fa2, .int .u32 nx2, .int .i64 du2, .bool ch2], .int .i64 0]) ∧ Below w1.heap.size w1 w') := Lib.hid (by
          have q := HE.out
          rw [show outR 0 (expR h g ⟨a1, m1, st1, me1, lo1, fa1, nx1, du1, ch1⟩ du1) = ⟨a2, m2, st2, me2, lo2, fa2, nx2, du2, ch2⟩ from hr2.symm] at q
          exact q)
        have HR2 := Lib.hid hr2
        clear hr2 HE
        go_wp2_with fail
        refine HE2.out.mono ?_
        rintro e w2 ⟨rfl, b2⟩
        obtain ⟨yl, hvn, yb, yo, yc, BB, han⟩ := Y1.out
        have b3 := balloc b2 (.cells #[.int .u32 a2, .int .i64 m2, .int .i64 st2, .int .i64 me2, .int .i64 lo2, .int .i64 fa2, .int .u32 nx2, .int .i64 du2, .bool ch2] 31)
        have yn := Blk.new w2 31 #[.int .u32 a2, .int .i64 m2, .int .i64 st2, .int .i64 me2, .int .i64 lo2, .int .i64 fa2, .int .u32 nx2, .int .i64 du2, .bool ch2]
        replace yl := (yl.below b2 yl.lt).alloc (.cells #[.int .u32 a2, .int .i64 m2, .int .i64 st2, .int .i64 me2, .int .i64 lo2, .int .i64 fa2, .int .u32 nx2, .int .i64 du2, .bool ch2] 31)
        replace yb := (yb.below b2 yb.lt).alloc (.cells #[.int .u32 a2, .int .i64 m2, .int .i64 st2, .int .i64 me2, .int .i64 lo2, .int .i64 fa2, .int .u32 nx2, .int .i64 du2, .bool ch2] 31)
        replace yo := (own_bel yo b2).alloc (.cells #[.int .u32 a2, .int .i64 m2, .int .i64 st2, .int .i64 me2, .int .i64 lo2, .int .i64 fa2, .int .u32 nx2, .int .i64 du2, .bool ch2] 31)
        replace yc := (yc.below b2 yc.lt).alloc (.cells #[.int .u32 a2, .int .i64 m2, .int .i64 st2, .int .i64 me2, .int .i64 lo2, .int .i64 fa2, .int .u32 nx2, .int .i64 du2, .bool ch2] 31)
        replace BB := bnext BB b3
        have hs2 := b2.size
        have hs3 : w1.heap.size ≤ w2.heap.size := hs2
        clear c0 c1 c2 c3 c4 c5 c6 c7 c8 k0 k1 k2 k3 k4 k5 k6 k7 k8
        have c0 := (yl).cell 0
        have c1 := (yl).cell 1
        have c2 := (yl).cell 2
        have c3 := (yl).cell 3
        have c4 := (yl).cell 4
        have c5 := (yl).cell 5
        have c6 := (yl).cell 6
        have c7 := (yl).cell 7
        have c8 := (yl).cell 8
        simp only [List.getElem?_toArray, List.getElem?_cons_zero, List.getElem?_cons_succ] at c0 c1 c2 c3 c4 c5 c6 c7 c8
        have d0 := (yb).cell 0
        simp only [List.getElem?_toArray, List.getElem?_cons_zero, List.getElem?_cons_succ] at d0
        have f1 := yb.frozen 0
        have Y2 := Lib.hid (And.intro yl (And.intro hvn (And.intro yb (And.intro yo (And.intro yc (And.intro BB han))))))
        have hlen : ys.length + 1 ≤ 3 := by
          have := HF.out.2.1
          have := HF.out.2.2
          have := tim_rk HT.out
          omega
        have HLN := Lib.hid hlen
        clear hlen yl yb yo yc BB hvn han b2 b3
        go_wp2_with (at_builtin; go_must (refine wpList_append_rd rfl (.tmp 25) (.tmp 31) _ rfl (w.heap.size + 3) 80 i0 _ 10 80 Tryd.underlying76 hi0 hz0 hz1 hz2 rfl (by omega) v _ _ rfl (Y2.out.2.2.2.1.alloc _) 1 1 (stR (du1, ⟨a2, m2, st2, me2, lo2, fa2, nx2, du2, ch2⟩)) rfl rfl (rd_new1 _ _ _ (stR (du1, ⟨a2, m2, st2, me2, lo2, fa2, nx2, du2, ch2⟩))) (stR_one _) (by have := HLN.out; simp only [maxLen]; omega) (by have := HLN.out; omega) (by simp; omega) ?_); intro v1 w3 ho1 hg1 ha1; obtain ⟨A1, c1, rfl, q1, q2, q3, _⟩ := own_row ho1; obtain ⟨yl, hvn, yb, yo, yc, BB, han⟩ := Y2.out; have hlo := fun j hj => (yo.lt j hj).1; have hup := fun j hj => (YO.out.lt j hj).2; have Q3 := Lib.hid (life_keep (w := w) (K := w.heap.size + 3) hg1 yl yb yc yn BB hvn hlo (fun j hj => by have := hup j hj; omega) (by omega) (by omega) (by omega) hgl ho1 ha1 BB.size (.int .u32 a2) (.int .i64 m2) (.int .i64 st2) (.int .i64 me2) (.int .i64 lo2) (.int .i64 fa2) (.int .u32 nx2) (.int .i64 du2) (.bool ch2)); clear yl yb yo yc BB hvn han hlo hup yn q1 q2 q3 ho1 hg1 ha1; have q5 := Q3.out.1; have q6 := Q3.out.2.1; have q7 := Q3.out.2.2.1; have b0 := q5.cell 0; simp only [List.getElem?_toArray, List.getElem?_cons_zero, List.getElem?_cons_succ] at b0; have bf0 := q5.frozen 0; have g0 := q6.cell 0; have g1 := q6.cell 1; have g2 := q6.cell 2; have g3 := q6.cell 3; have g4 := q6.cell 4; have g5 := q6.cell 5; have g6 := q6.cell 6; have g7 := q6.cell 7; have g8 := q6.cell 8; simp only [List.getElem?_toArray, List.getElem?_cons_zero, List.getElem?_cons_succ] at g0 g1 g2 g3 g4 g5 g6 g7 g8; have gf0 := q6.frozen 0; have gf1 := q6.frozen 1; have gf2 := q6.frozen 2; have gf3 := q6.frozen 3; have gf4 := q6.frozen 4; have gf5 := q6.frozen 5; have gf6 := q6.frozen 6; have gf7 := q6.frozen 7; have gf8 := q6.frozen 8; have n0 := q7.cell 0; have n1 := q7.cell 1; have n2 := q7.cell 2; have n3 := q7.cell 3; have n4 := q7.cell 4; have n5 := q7.cell 5; have n6 := q7.cell 6; have n7 := q7.cell 7; have n8 := q7.cell 8; simp only [List.getElem?_toArray, List.getElem?_cons_zero, List.getElem?_cons_succ] at n0 n1 n2 n3 n4 n5 n6 n7 n8; clear q5 q6 q7)
        go_roundw
        case rel =>
          obtain ⟨_, _, _, k1, k2, k3, k4⟩ := Q3.out
          obtain ⟨_, _, _, _, _, _, g1, g2⟩ := Y2.out
          have HR3 := HR2.out
          have hF := HF.out
          have hrk := exp_rk h g ⟨a1, m1, st1, me1, lo1, fa1, nx1, du1, ch1⟩ HT.out
          rw [← HR3] at hrk g1 g2
          obtain ⟨kk', rfl⟩ : ∃ kk', kk = kk' + 1 := ⟨kk - 1, by have := tim_rk HT.out; omega⟩
          have hst : lifeS h g oc (kk' + 1) ⟨a1, m1, st1, me1, lo1, fa1, nx1, du1, ch1⟩ = (du1, ⟨a2, m2, st2, me2, lo2, fa2, nx2, du2, ch2⟩) :: lifeS h g oc kk' ⟨a2, m2, st2, me2, lo2, fa2, nx2, du2, ch2⟩ := by
            rw [HR3]
            exact if_pos ⟨HT.out, HER.out.symm⟩
          have yn := Blk.new ((((((((((w3.setCell ⟨w.heap.size + 1 + 1, 0, none⟩ (.slice A1 (ys.length + 1) c1)).setCell ⟨gl, 0, none⟩ (.int .u32 a2)).setCell ⟨gl, 1, none⟩ (.int .i64 m2)).setCell ⟨gl, 2, none⟩ (.int .i64 st2)).setCell ⟨gl, 3, none⟩ (.int .i64 me2)).setCell ⟨gl, 4, none⟩ (.int .i64 lo2)).setCell ⟨gl, 5, none⟩ (.int .i64 fa2)).setCell ⟨gl, 6, none⟩ (.int .u32 nx2)).setCell ⟨gl, 7, none⟩ (.int .i64 du2)).setCell ⟨gl, 8, none⟩ (.bool ch2)) 78 #[.int .u32 a2, .int .i64 m2, .int .i64 st2, .int .i64 me2, .int .i64 lo2, .int .i64 fa2, .int .u32 nx2, .int .i64 du2, .bool ch2]
          have e1 : ((((((((((w3.setCell ⟨w.heap.size + 1 + 1, 0, none⟩ (.slice A1 (ys.length + 1) c1)).setCell ⟨gl, 0, none⟩ (.int .u32 a2)).setCell ⟨gl, 1, none⟩ (.int .i64 m2)).setCell ⟨gl, 2, none⟩ (.int .i64 st2)).setCell ⟨gl, 3, none⟩ (.int .i64 me2)).setCell ⟨gl, 4, none⟩ (.int .i64 lo2)).setCell ⟨gl, 5, none⟩ (.int .i64 fa2)).setCell ⟨gl, 6, none⟩ (.int .u32 nx2)).setCell ⟨gl, 7, none⟩ (.int .i64 du2)).setCell ⟨gl, 8, none⟩ (.bool ch2)).heap.size = w3.heap.size := by simp
          have hle : (ys ++ [(du1, (⟨a2, m2, st2, me2, lo2, fa2, nx2, du2, ch2⟩ : Rt))]).length = ys.length + 1 := by simp
          have hsc : stC (ys ++ [(du1, (⟨a2, m2, st2, me2, lo2, fa2, nx2, du2, ch2⟩ : Rt))]) = stC ys ++ stR (du1, ⟨a2, m2, st2, me2, lo2, fa2, nx2, du2, ch2⟩) := by rw [stC_append]; simp [stC]
          have hlt := (k2.alloc (.cells #[.int .u32 a2, .int .i64 m2, .int .i64 st2, .int .i64 me2, .int .i64 lo2, .int .i64 fa2, .int .u32 nx2, .int .i64 du2, .bool ch2] 78)).lt
          have hl0 := k2.lt
          rw [e1] at yn hl0
          have hg3 : w.heap.size + 3 ≤ w3.heap.size := by have := (Q3.out.2.1).lt; omega
          refine ⟨w3.heap.size, a2, m2, st2, me2, lo2, fa2, nx2, du2, ch2, ys ++ [(du1, ⟨a2, m2, st2, me2, lo2, fa2, nx2, du2, ch2⟩)], kk', _, rfl, yn, hg3, fun j hj => by have := (hl0 j hj).2; omega, k1.alloc _, ?_, k3.alloc _, balloc k4 _, g1, g2, Lib.hid ⟨?_, ?_, ?_⟩⟩
          · rw [hle, hsc]; exact k2.alloc _
          · rw [hF.1, hst, List.append_assoc]; rfl
          · rw [hle]; omega
          · simp only at hrk; omega
        case measure =>
          have yn := Blk.new ((((((((((w3.setCell ⟨w.heap.size + 1 + 1, 0, none⟩ (.slice A1 (ys.length + 1) c1)).setCell ⟨gl, 0, none⟩ (.int .u32 a2)).setCell ⟨gl, 1, none⟩ (.int .i64 m2)).setCell ⟨gl, 2, none⟩ (.int .i64 st2)).setCell ⟨gl, 3, none⟩ (.int .i64 me2)).setCell ⟨gl, 4, none⟩ (.int .i64 lo2)).setCell ⟨gl, 5, none⟩ (.int .i64 fa2)).setCell ⟨gl, 6, none⟩ (.int .u32 nx2)).setCell ⟨gl, 7, none⟩ (.int .i64 du2)).setCell ⟨gl, 8, none⟩ (.bool ch2)) 78 #[.int .u32 a2, .int .i64 m2, .int .i64 st2, .int .i64 me2, .int .i64 lo2, .int .i64 fa2, .int .u32 nx2, .int .i64 du2, .bool ch2]
          have e1 : ((((((((((w3.setCell ⟨w.heap.size + 1 + 1, 0, none⟩ (.slice A1 (ys.length + 1) c1)).setCell ⟨gl, 0, none⟩ (.int .u32 a2)).setCell ⟨gl, 1, none⟩ (.int .i64 m2)).setCell ⟨gl, 2, none⟩ (.int .i64 st2)).setCell ⟨gl, 3, none⟩ (.int .i64 me2)).setCell ⟨gl, 4, none⟩ (.int .i64 lo2)).setCell ⟨gl, 5, none⟩ (.int .i64 fa2)).setCell ⟨gl, 6, none⟩ (.int .u32 nx2)).setCell ⟨gl, 7, none⟩ (.int .i64 du2)).setCell ⟨gl, 8, none⟩ (.bool ch2)).heap.size = w3.heap.size := by simp
          rw [e1] at yn
          have hrk := exp_rk h g ⟨a1, m1, st1, me1, lo1, fa1, nx1, du1, ch1⟩ HT.out
          rw [← HR2.out] at hrk
          rw [hM0.out, rkM_of (show World.cell? _ _ = some (Value.int .i64 st2) from yn.cell 2)]
          simp only at hrk
          omega
      · have HE2 : Hid (Calls Tryd.prog 24 #[.agg #[.int .i64 p, .int .i64 j, .int .i64 t, .int .i64 h, .int .i64 g, .int .i64 q, .int .i64 s, .int .i64 cp, .slice A n k], .agg #[.int .u32 a1, .int .i64 m1, .int .i64 st1, .int .i64 me1, .int .i64 lo1, .int .i64 fa1, .int .u32 nx1, .int .i64 du1, .bool ch1], .int .i64 du1] w1 fun e w' => e = .returned (.tuple #[.agg #[.int .u32 0, .int .i64 0, .int .i64 0, .int .i64 0, .int .i64 0, .int .i64 0, .int .u32 0, .int .i64 0, .bool false], .int .i64 er]) ∧ Below w1.heap.size w1 w') := Lib.hid (by
          have q := HE.out
          rw [show outR er (expR h g ⟨a1, m1, st1, me1, lo1, fa1, nx1, du1, ch1⟩ du1) = rz from if_neg h0] at q
          exact q)
        have hne : (er != 0) = true := by simpa using h0
        have HN0 := Lib.hid h0
        clear HE h0
        go_wp2_with fail
        refine HE2.out.mono ?_
        rintro e w2 ⟨rfl, b2⟩
        obtain ⟨yl, hvn, yb, yo, yc, BB, han⟩ := Y1.out
        have b3 := balloc b2 (.cells #[.int .u32 0, .int .i64 0, .int .i64 0, .int .i64 0, .int .i64 0, .int .i64 0, .int .u32 0, .int .i64 0, .bool false] 31)
        replace yb := (yb.below b2 yb.lt).alloc (.cells #[.int .u32 0, .int .i64 0, .int .i64 0, .int .i64 0, .int .i64 0, .int .i64 0, .int .u32 0, .int .i64 0, .bool false] 31)
        replace yo := (own_bel yo b2).alloc (.cells #[.int .u32 0, .int .i64 0, .int .i64 0, .int .i64 0, .int .i64 0, .int .i64 0, .int .u32 0, .int .i64 0, .bool false] 31)
        replace BB := bnext BB b3
        clear c0 c1 c2 c3 c4 c5 c6 c7 c8 k0 k1 k2 k3 k4 k5 k6 k7 k8
        clear yl yc hvn han b2 b3
        go_wp2_with fail
        go_ret
        have hys : lifeS h g oc 3 ⟨a, m, st, me, lo, fa, nx, du, ch⟩ = ys := by
          rw [HF.out.1, lifeS_no (by rintro ⟨_, e⟩; exact HN0.out (HER.out.trans e)), List.append_nil]
        obtain ⟨A1, c1, rfl, h1, h2, h3, _⟩ := own_row yo
        rw [hys]
        exact ⟨_, rfl, ⟨_, A1, c1, rfl, yb, h1, h2, h3⟩, BB⟩
end Go.Proofs.YtgjeejdebneoaaaDoor
