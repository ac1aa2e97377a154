/- route: what Life hands on; == of turns. -/
import Derived.Test.YtgjeejdebneoaaaDoorRoE
namespace Go.Proofs.YtgjeejdebneoaaaDoor
set_option linter.unusedVariables false
set_option linter.unusedSimpArgs false
open Go.RowKit Go.Shelf
attribute [local go_sem] Oper.semAt_some
set_option maxRecDepth 100000
def rtA (r : Rt) : Array Value := #[.int .u32 r.a, .int .i64 r.m, .int .i64 r.st, .int .i64 r.me, .int .i64 r.lo, .int .i64 r.fa, .int .u32 r.nx, .int .i64 r.du, .bool r.ch]
/-- what Life hands on -/
def stT (ys : List (Int × Rt)) (x : Nat) : Int := (ys.getD x (0, rz)).1
def stQ (ys : List (Int × Rt)) (x : Nat) : Rt := (ys.getD x (0, rz)).2
def stW (ys : List (Int × Rt)) (x : Nat) : Array Value := #[.int .u32 (stQ ys x).a, .int .i64 (stQ ys x).m, .int .i64 (stQ ys x).st, .int .i64 (stQ ys x).me, .int .i64 (stQ ys x).lo, .int .i64 (stQ ys x).fa, .int .u32 (stQ ys x).nx, .int .i64 (stQ ys x).du, .bool (stQ ys x).ch]
def stE (ys : List (Int × Rt)) (x : Nat) : Array Value := #[.int .i64 (stT ys x), .agg (stW ys x)]
theorem st_at {w : World} {B : Nat} {A : Option Addr} {ys : List (Int × Rt)} (q : Rd w B A (stC ys)) {i : Nat} {y : Int × Rt} (hi : ys[i]? = some y) :
    ∃ b off, A = some ⟨b, off, none⟩ ∧ b < B ∧ w.cell? ⟨b, off + i * 10, none⟩ = some (.int .i64 y.1) ∧ w.cell? ⟨b, off + i * 10 + 1, none⟩ = some (.int .u32 y.2.a) ∧ w.cell? ⟨b, off + i * 10 + 2, none⟩ = some (.int .i64 y.2.m) ∧ w.cell? ⟨b, off + i * 10 + 3, none⟩ = some (.int .i64 y.2.st) ∧ w.cell? ⟨b, off + i * 10 + 4, none⟩ = some (.int .i64 y.2.me) ∧ w.cell? ⟨b, off + i * 10 + 5, none⟩ = some (.int .i64 y.2.lo) ∧ w.cell? ⟨b, off + i * 10 + 6, none⟩ = some (.int .i64 y.2.fa) ∧ w.cell? ⟨b, off + i * 10 + 7, none⟩ = some (.int .u32 y.2.nx) ∧ w.cell? ⟨b, off + i * 10 + 8, none⟩ = some (.int .i64 y.2.du) ∧ w.cell? ⟨b, off + i * 10 + 9, none⟩ = some (.bool y.2.ch) := by
  have hl : i < ys.length := (List.getElem?_eq_some_iff.1 hi).1
  obtain ⟨b, off, hA, hb, hc⟩ := q (by rw [stC_len]; omega)
  refine ⟨b, off, hA, hb, ?_, ?_, ?_, ?_, ?_, ?_, ?_, ?_, ?_, ?_⟩
  · exact hc (i * 10) _ (stC_get ys i y hi 0 (by omega))
  all_goals
    rw [Nat.add_assoc]
    exact hc _ _ (stC_get ys i y hi _ (by omega))

set_option maxHeartbeats 4000000 in
theorem life1_in (n : Nat) (hn : 1 ≤ n) (lb Bd n₀ N : Nat) (ys : List (Int × Rt)) (A : Option Addr) (c : Nat) (hN : ys.length = N) (hlc : N ≤ c) (hc : c ≤ 9223372036854775807) (hl : N ≤ 1000)
    (J Jx : List Nat → World → Prop) (W : World)
    (hW : AbidesFrom W.heap.size J)
    (hY : ∀ pre x W1, J pre W1 → pre.length < N → YieldAt Fence.wide (n - 1) Tryd.prog lb (stE ys x) W1 fun e W' =>
      (e = .returned (.bool true) ∧ J (pre ++ [x]) W' ∧ Below n₀ W1 W') ∨ (e = .returned (.bool false) ∧ Jx (pre ++ [x]) W'))
    (hBd : Blk W Bd 76 #[.slice A N c]) (hr : Rd W n₀ A (stC ys)) (h2 : Bd < n₀) (hn0 : n₀ ≤ W.heap.size) (h0 : J [] W) :
    CallsIn Fence.wide n Tryd.prog 39 #[.func (.yield lb) #[] #[], .pointer (some ⟨Bd, 0, none⟩)] W fun e W' => (∃ v, e = .returned v) ∧
      ((∃ zs, zs = List.range N ∧ J zs W') ∨ (∃ pre, (∃ j, j ≤ N ∧ pre = List.range j) ∧ Jx pre W')) := by
  have cl := hBd.cell 0
  simp only [List.getElem?_toArray, List.getElem?_cons_zero] at cl
  have HR := Lib.hid hr
  have HY := Lib.hid hY
  have HJW := Lib.hid hW
  have HN := Lib.hid hN
  clear hr hY hN hW
  refine callsIn_of_wp Tryd.func39 rfl trivial ?_ rfl
  simp only [Tryd.ntmps39, List.size_toArray, List.length_cons, List.length_nil, Nat.reduceAdd, Nat.reduceSub, Array.replicate_succ, Array.replicate_zero, List.push_toArray, List.append_toArray, List.nil_append, List.cons_append]
  refine scope_in ?_
  gi_wp2_with fail
  refine wpIn_label ?_
  gi_wp2
  gi_loopw [7] (fun i wr => ∃ j : Nat, j ≤ N ∧ i = .int .i64 j ∧ J (List.range j) wr ∧ Below n₀ W wr) (fun i _ => N - (intOf i).toNat)
  case atStart => exact ⟨0, Nat.zero_le _, rfl, h0, Below.refl _ _⟩
  case round =>
    obtain ⟨j, hj, rfl, hJ, hb⟩ := hrel
    by_cases hlt : j < N
    · obtain ⟨y, hy⟩ : ∃ y, ys[j]? = some y := ⟨_, List.getElem?_eq_getElem (by rw [HN.out]; exact hlt)⟩
      obtain ⟨b, off, hA, hbB, e0, e1, e2, e3, e4, e5, e6, e7, e8, e9⟩ := st_at (HR.out.below hb) hy
      subst hA
      have hy0 := HY.out (List.range j) j
      have hE : stE ys j = #[.int .i64 y.1, .agg (rtA y.2)] := by unfold stE stT stW stQ; rw [List.getD, hy]; rfl
      rw [hE] at hy0
      obtain ⟨at1, a1, m1, st1, me1, lo1, fa1, nx1, du1, ch1⟩ := y
      simp only [rtA] at hy0 e0 e1 e2 e3 e4 e5 e6 e7 e8 e9
      have hj3 : (0 : Int) ≤ (j : Int) := by omega
      have hj4 : (j : Int) < (N : Int) := by omega
      have bW1 : Below wr.heap.size wr (wr.alloc (.cells #[.int .i64 at1, .int .u32 a1, .int .i64 m1, .int .i64 st1, .int .i64 me1, .int .i64 lo1, .int .i64 fa1, .int .u32 nx1, .int .i64 du1, .bool ch1] 80)) := balloc (Below.refl _ _) _
      obtain ⟨fn, tmps, assign, body, hyy, hR⟩ := hy0 _ (HJW.out _ _ _ none hJ (below_none bW1) (by simp)) (by simpa using hlt)
      have HB1 := Lib.hid (hb.trans (bW1.mono (Nat.le_trans hn0 hb.size)))
      clear hy0 hE hy bW1 hb hJ
      gi_wp2_with fail
      refine hR.mono ?_
      rintro e W3 (⟨rfl, hJ3, hk3⟩ | ⟨rfl, hJx3⟩)
      · gi_wp2
        go_roundw
        case rel => exact ⟨j + 1, by omega, by go_num, by rw [List.range_succ]; exact hJ3, HB1.out.trans hk3⟩
        case measure => simp [intOf]; omega
      · gi_wp2
        rw [Exit.noGoto_normal]
        go_end0
        exact ⟨⟨_, rfl⟩, .inr ⟨_, ⟨j + 1, by omega, (List.range_succ).symm⟩, hJx3⟩⟩
    · obtain rfl : j = N := by omega
      gi_wp2_with fail
      rw [Exit.noGoto_normal]
      go_end0
      exact ⟨⟨_, rfl⟩, .inl ⟨_, rfl, hJ⟩⟩
theorem life_stops (n : Nat) (hn : 1 ≤ n) (n₀ : Nat) (ys : List (Int × Rt)) (lb : Array Value) (w : World) (hl : ys.length ≤ 3) (w0 : World) (h0 : IsLife w0 ys lb) (hb : Below w0.heap.size w0 w) (hn0 : w0.heap.size ≤ n₀) (hn1 : n₀ ≤ w.heap.size) :
    SeqStopsK Fence.wide n Tryd.prog 39 lb (stE ys) (Below n₀) (fun zs => zs = List.range ys.length) (fun pre => ∃ j, j ≤ ys.length ∧ pre = List.range j) ys.length w := fun lp J Jx W hW hA _ hY hJ0 => by
  have hb2 : Below w0.heap.size w0 W := bnext hb hW
  obtain ⟨Bd, A, c, rfl, h2, h3, h4, h5⟩ := h0
  exact life1_in n hn lp Bd n₀ ys.length ys A c rfl h3 (by unfold maxLen at h4; omega) (by omega) J Jx W hA hY (h2.below hb2 h2.lt) ((h5.below hb2).more hn0) (Nat.lt_of_lt_of_le h2.lt hn0) (Nat.le_trans hn1 hW.size) hJ0
theorem ne_turn (t a m st me lo fa nx du t' a' m' st' me' lo' fa' nx' du' : Int) (ch ch' : Bool) (w : World) : (binOp .neq 49 (.agg #[.int .i64 t, .int .u32 a, .int .i64 m, .int .i64 st, .int .i64 me, .int .i64 lo, .int .i64 fa, .int .u32 nx, .int .i64 du, .bool ch]) (.agg #[.int .i64 t', .int .u32 a', .int .i64 m', .int .i64 st', .int .i64 me', .int .i64 lo', .int .i64 fa', .int .u32 nx', .int .i64 du', .bool ch'])).run Tryd.prog w = .ok (.bool (!(t == t' && a == a' && m == m' && st == st' && me == me' && lo == lo' && fa == fa' && nx == nx' && du == du' && ch == ch'))) w := by
  have h1 : Tryd.prog.underlying 49 = some (.struct (Tryd.prog.fieldsOf 49)) := by simp [Program.fieldsOf, Tryd.underlying49]
  have h2 := run_equalIn_struct (P := Tryd.prog) w 9999 49 #[.int .i64 t, .int .u32 a, .int .i64 m, .int .i64 st, .int .i64 me, .int .i64 lo, .int .i64 fa, .int .u32 nx, .int .i64 du, .bool ch] #[.int .i64 t', .int .u32 a', .int .i64 m', .int .i64 st', .int .i64 me', .int .i64 lo', .int .i64 fa', .int .u32 nx', .int .i64 du', .bool ch'] h1 (by kernel_rfl)
  simp only [binOp]
  simp only [Op.equal, Op.maxDepth, Sem.run_bind, h2]
  by_cases e0 : t = t' <;> simp [go_sem, e0]
  by_cases e1 : a = a' <;> simp [go_sem, e1]
  by_cases e2 : m = m' <;> simp [go_sem, e2]
  by_cases e3 : st = st' <;> simp [go_sem, e3]
  by_cases e4 : me = me' <;> simp [go_sem, e4]
  by_cases e5 : lo = lo' <;> simp [go_sem, e5]
  by_cases e6 : fa = fa' <;> simp [go_sem, e6]
  by_cases e7 : nx = nx' <;> simp [go_sem, e7]
  by_cases e8 : du = du' <;> simp [go_sem, e8]
  by_cases e9 : ch = ch' <;> simp [go_sem, e9]
end Go.Proofs.YtgjeejdebneoaaaDoor
