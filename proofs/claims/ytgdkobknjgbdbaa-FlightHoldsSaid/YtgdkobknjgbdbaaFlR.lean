/- The document's flight: New, Time, Pick, late, Put, without. -/
import Derived.Test.YtgdkobknjgbdbaaFl8
namespace Go.Proofs.Ytgdkobknjgbdbaa
set_option linter.unusedVariables false
set_option linter.unusedSimpArgs false
open Go.RowKit
set_option maxRecDepth 100000

section
variable {P : Program} {w : World} {B : Nat} {A : Option Addr}
/-- an append of any cells that are read, at a step of a region that draws its order -/
theorem step_append_rd {ops : Array Oper} {o : Oper} {a : Act} {K : Act → World → Prop} {Q : Exit → Act → World → Prop} {E : Prop} (hgd : o.guard = none) (s x : Operand) (t : TypeId)
    (ho : o.op = .call { callee := .builtin .append, args := #[s, x], argTypes := #[t, t] })
    (base : Nat) (e : TypeId) (i : TypeInfo) (z : Value) (size bytes : Nat) (ht : P.underlying t = some (.slice e)) (hi : P.info? e = some i) (hz : i.zero = some z)
    (hsize : i.size = size) (hby : i.bytes = bytes) (hzs : z.cells.size = size) (hsz : 0 < size)
    (v : Value) (n : Nat) (xs : List Value) (hs : a.eval s = v) (hown : w.ownsRow base e size v n xs)
    (m c : Nat) (ys : List Value) (hx : a.eval x = .slice A m c) (hl : ys.length = m * size) (hr : Rd w B A ys) (h1 : ∀ u ∈ ys, u.oneCell' = true)
    (h63 : n + m ≤ maxLen) (hbytes : (n + m) * bytes ≤ 140737488355328) (hbase : base ≤ w.heap.size)
    (h : ∀ A' c' w', w'.ownsRow base e size (.slice A' (n + m) c') (n + m) (xs ++ ys) → w.grownBy w' v.ownBlock → ((Value.slice A' (n + m) c').ownBlock = v.ownBlock ∨ (Value.slice A' (n + m) c').ownBlock = some w.heap.size) → K (a.put o.dst (.slice A' (n + m) c')) w') :
    if Region.wanted o (yielded ops a.tmps) = true then Oper.wp P o a w K Q else E := by
  have hw : Region.wanted o (yielded ops a.tmps) = true := by simp [Region.wanted, hgd]
  rw [if_pos hw]
  obtain ⟨v', w', g1, g2, g3, g4⟩ := run_append_rd (P := P) base t o.type e i z size bytes ht hi hz hsize hby hzs hsz v n xs hown m c ys hl hr h1 h63 hbytes hbase
  obtain ⟨A', c', rfl, _⟩ := own_row g2
  unfold Oper.wp execOp
  simp only [ho, resolve, invoke, builtin, Sem.run_bind, Sem.run_pure, Result.andThen_ok, List.map_toArray, List.map_cons, List.map_nil, hs, hx, g1]
  exact h _ _ _ g2 g3 g4
end

theorem refnew_no (room : Int) (w : World) (h : ¬ (1 ≤ room ∧ room ≤ 512)) : Calls Try.prog 18 #[.int .i64 room] w fun e w' => e = .returned (.tuple #[.agg #[.slice none 0 0, .int .i64 0, .int .i64 0], .int .i64 2]) ∧ Below w.heap.size w w' := by
  by_cases h1 : room < 1
  · go_enter Try.func18, Try.ntmps18
    go_wp2_with fail
    refine bodyPost_ret (v := .tuple #[.agg #[.slice none 0 0, .int .i64 0, .int .i64 0], .int .i64 2]) (by simp [results, Try.results18, go_sem]) rfl ⟨rfl, by go_grown⟩
  · have h2 : 512 < room := by omega
    clear h
    go_enter Try.func18, Try.ntmps18
    go_wp2_with fail
    refine bodyPost_ret (v := .tuple #[.agg #[.slice none 0 0, .int .i64 0, .int .i64 0], .int .i64 2]) (by simp [results, Try.results18, go_sem]) rfl ⟨rfl, by go_grown⟩
theorem refnew_ok (room : Int) (w : World) (h1 : 1 ≤ room) (h2 : room ≤ 512) : Calls Try.prog 18 #[.int .i64 room] w fun e w' => e = .returned (.tuple #[.agg #[.slice none 0 0, .int .i64 room, .int .i64 0], .int .i64 0]) ∧ Below w.heap.size w w' := by
  go_enter Try.func18, Try.ntmps18
  go_wp2_with fail
  refine bodyPost_ret (v := .tuple #[.agg #[.slice none 0 0, .int .i64 room, .int .i64 0], .int .i64 0]) (by simp [results, Try.results18, go_sem]) rfl ⟨rfl, by go_grown⟩

theorem time_any (t : Int) (w : World) : Calls Try.prog 50 #[.int .i64 t] w fun e w' => e = .returned (.bool (decide (0 ≤ t) && decide (t ≤ 4611686018427387904))) ∧ w = w' := by
  by_cases h1 : 0 ≤ t
  · rw [show (decide (0 ≤ t) && decide (t ≤ 4611686018427387904)) = decide (t ≤ 4611686018427387904) by simp [h1]]
    go_enter Try.func50, Try.ntmps50
    go_wp2
    go_ret
    exact ⟨rfl, rfl⟩
  · rw [show (decide (0 ≤ t) && decide (t ≤ 4611686018427387904)) = false by simp [h1]]
    go_enter Try.func50, Try.ntmps50
    go_wp2
    go_ret
    exact ⟨rfl, rfl⟩
theorem refpick_any (pick : Int) (n : Nat) (w : World) (h : 0 < n) (hn : n ≤ 1000000) :
    Calls Try.prog 51 #[.int .i64 pick, .int .i64 n] w fun e w' => e = .returned (.int .i64 (pickF pick n : Nat)) ∧ w = w' := by
  have h0 : (0 : Int) < n := by omega
  have h1 : pick.tmod n < n := Int.tmod_lt_of_pos _ h0
  have h2 : -(n : Int) < pick.tmod n := by
    have := Int.tmod_lt_of_pos (-pick) h0
    rw [Int.neg_tmod] at this
    omega
  have e2 := Int.emod_nonneg pick (show (n : Int) ≠ 0 by omega)
  have e4 : pick.tmod n % n = pick % n := by rw [Int.tmod_def, Int.sub_mul_emod_self_left]
  have h3 : ((pickF pick n : Nat) : Int) = if pick.tmod n < 0 then pick.tmod n + n else pick.tmod n := by
    unfold pickF
    rw [Int.toNat_of_nonneg e2, ← e4]
    split
    · rw [← Int.add_emod_right, Int.emod_eq_of_lt (by omega) (by omega)]
    · rw [Int.emod_eq_of_lt (by omega) (by omega)]
  have H3 := Lib.hid h3
  clear h3 e2 e4
  by_cases hq : pick.tmod n < 0
  · go_enter Try.func51, Try.ntmps51
    go_wp2
    go_ret
    exact ⟨by rw [H3.out, if_pos hq]; rfl, rfl⟩
  · go_enter Try.func51, Try.ntmps51
    go_wp2
    go_ret
    exact ⟨by rw [H3.out, if_neg (by omega)]; rfl, rfl⟩
theorem reflate_any (lk fr ds : Int) (sr : Nat) (A : Option Addr) (n c : Nat) (st now delay : Int) (w : World) (hs : 0 ≤ st) (hn : now ≤ 9223372036854775807) :
    Calls Try.prog 53 #[.agg #[.int .i64 lk, .int .i64 fr, .int .i64 ds, .int .u32 sr, .slice A n c, .int .i64 st], .int .i64 now, .int .i64 delay] w fun e w' => e = .returned (.bool (lateB st now delay)) ∧ Below w.heap.size w w' := by
  by_cases h1 : st ≤ now
  · have hb : lateB st now delay = decide (delay ≤ now - st) := by simp [lateB, h1]
    rw [hb]
    clear hb
    go_enter Try.func53, Try.ntmps53
    go_wp2
    go_ret
    exact ⟨rfl, balloc (Below.refl _ _) _⟩
  · have hb : lateB st now delay = false := by simp [lateB, h1]
    rw [hb]
    clear hb
    go_enter Try.func53, Try.ntmps53
    go_wp2
    go_ret
    exact ⟨rfl, balloc (Below.refl _ _) _⟩

/-- a part of a list of mails -/
theorem mcut_lo (b off n k i : Nat) (h : i ≤ n) (hn : n ≤ k) (hk : k ≤ 9223372036854775807) : ∃ A1, (∀ W, (Instr.slice 47 (.slice (some ⟨b, off, none⟩) n k) none (some (.int .i64 i)) none).run Try.prog W = .ok (.slice A1 i k) W) ∧
    ∀ (W : World) (B : Nat) (rs : List Ml), rs.length = n → Rd W B (some ⟨b, off, none⟩) (mlC rs) → Rd W B A1 (mlC (rs.take i)) := by
  refine ⟨if k = 0 then some ⟨b, off, none⟩ else some ⟨b, off + 0, none⟩, fun W => ?_, fun W B rs hl hr => ?_⟩
  · have := run_slice_h W 47 (some ⟨b, off, none⟩) n k Try.underlying47 .i64 (i : Int) (by omega) (by omega)
    rw [this]
    simp [go_sem, sliced, add_plain]
  · by_cases h0 : i = 0
    · subst h0; simp only [List.take_zero]; exact Rd.nil
    · have h2 := hr.cut 0 (i * 6) (by omega) (by rw [mlC_len]; omega)
      have h3 := rows_cut mlL_len rs 0 i
      rw [if_neg (by omega)]
      rw [show mlC rs = rs.flatMap mlL from rfl] at h2
      rw [Nat.zero_mul] at h3
      rw [h3] at h2
      simpa [add_plain, mlC] using h2
theorem mcut_hi (b off n k i : Nat) (h : i < n) (hn : n ≤ k) (hk : k ≤ 9223372036854775807) : ∃ A1, (∀ W, (Instr.slice 47 (.slice (some ⟨b, off, none⟩) n k) (some (.int .i64 ((i : Int) + 1))) none none).run Try.prog W = .ok (.slice A1 (n - (i + 1)) (k - (i + 1))) W) ∧
    ∀ (W : World) (B : Nat) (rs : List Ml), rs.length = n → Rd W B (some ⟨b, off, none⟩) (mlC rs) → Rd W B A1 (mlC (rs.drop (i + 1))) := by
  refine ⟨if k = i + 1 then some ⟨b, off, none⟩ else some ⟨b, off + (i + 1) * 6, none⟩, fun W => ?_, fun W B rs hl hr => ?_⟩
  · have := run_slice_l W 47 (some ⟨b, off, none⟩) n k Try.underlying47 .i64 ((i : Int) + 1) (by omega) (by omega)
    rw [this]
    have e : ((i : Int) + 1).toNat = i + 1 := by omega
    simp [go_sem, sliced, add_plain, e]
  · by_cases h0 : n = i + 1
    · rw [List.drop_eq_nil_of_le (by omega)]; exact Rd.nil
    · have h2 := hr.cut ((i + 1) * 6) ((n - (i + 1)) * 6) (by omega) (by rw [mlC_len, hl]; omega)
      have h3 := rows_cut mlL_len rs (i + 1) (n - (i + 1))
      rw [if_neg (by omega)]
      rw [show mlC rs = rs.flatMap mlL from rfl, h3, List.take_of_length_le (by simp; omega)] at h2
      simpa [add_plain, mlC] using h2

/-- a list of mails is handed on, in a row that was made now -/
def NewRow (w w' : World) (xs : List Value) (A : Option Addr) (n c : Nat) : Prop := w'.ownsRow w.heap.size 33 6 (.slice A n c) n xs ∧ n ≤ c ∧ c ≤ maxLen

theorem app_a {w2 w3 : World} {o : Obj} {A3 : Option Addr} {m c3 : Nat} (r3 : (w2.alloc o).drew.grownBy w3 (Value.slice (some ⟨w2.heap.size, 0, none⟩) 0 0).ownBlock)
    (a3 : (Value.slice A3 m c3).ownBlock = (Value.slice (some ⟨w2.heap.size, 0, none⟩) 0 0).ownBlock ∨ (Value.slice A3 m c3).ownBlock = some (w2.alloc o).drew.heap.size) :
    Fr (fun k => k < w2.heap.size) w2 w3 ∧ (∀ q, (Value.slice A3 m c3).ownBlock = some q → w2.heap.size ≤ q) := by
  have hz : (w2.alloc o).drew.heap.size = w2.heap.size + 1 := by show (w2.alloc o).heap.size = _; simp
  have e1 : (Value.slice (some ⟨w2.heap.size, 0, none⟩) 0 0).ownBlock = some w2.heap.size := rfl
  rw [e1] at r3 a3
  refine ⟨(Fr.of_below (Below.drew (balloc (Below.refl w2.heap.size w2) o))).trans (Fr.grown r3 (fun b hb e => by injection e with e; omega)), fun q hq => ?_⟩
  rw [hq] at a3
  rcases a3 with h | h
  · injection h with h; omega
  · injection h with h; omega
theorem app_b {w2 w3 w5 : World} {v : Value} {A5 : Option Addr} {m c5 : Nat} (hs : w2.heap.size ≤ w3.heap.size) (hv : ∀ q, v.ownBlock = some q → w2.heap.size ≤ q) (r5 : w3.grownBy w5 v.ownBlock) (a5 : (Value.slice A5 m c5).ownBlock = v.ownBlock ∨ (Value.slice A5 m c5).ownBlock = some w3.heap.size) :
    Fr (fun k => k < w2.heap.size) w3 w5 ∧ (∀ q, (Value.slice A5 m c5).ownBlock = some q → w2.heap.size ≤ q) := by
  refine ⟨Fr.grown r5 (fun b hb e => by have := hv b e; omega), fun q hq => ?_⟩
  rw [hq] at a5
  rcases a5 with h | h
  · exact hv q h.symm
  · injection h with h; omega

set_option maxHeartbeats 2000000 in
theorem without_any (room lost : Int) (rs : List Ml) (n k i : Nat) (hnn : rs.length = n) (A : Option Addr) (w : World) (hR : Rd w w.heap.size A (mlC rs)) (hi : i < n) (hn : n ≤ 512) (hnk : n ≤ k) (hk : k ≤ 9223372036854775807) :
    Calls Try.prog 52 #[.agg #[.slice A n k, .int .i64 room, .int .i64 lost], .int .i64 i] w fun e w' => ∃ A' c', e = .returned (.agg #[.slice A' (n - 1) c', .int .i64 room, .int .i64 lost]) ∧ NewRow w w' (mlC (rs.eraseIdx i)) A' (n - 1) c' ∧ Below w.heap.size w w' := by
  obtain ⟨i0, hi0, hz0, hz1, hz2⟩ := info_parts mail_info
  have hil : i < rs.length := by omega
  obtain ⟨b, off, rfl, hbb, _⟩ := ml_at hR (List.getElem?_eq_getElem hil)
  obtain ⟨A1, s1, hA1⟩ := mcut_lo b off n k i (by omega) hnk hk
  obtain ⟨A2, s2, hA2⟩ := mcut_hi b off n k i hi hnk hk
  have HR1 := Lib.hid (fun W (hW : Below w.heap.size w W) => hA1 W w.heap.size rs hnn (hR.below hW))
  have HR2 := Lib.hid (fun W (hW : Below w.heap.size w W) => hA2 W w.heap.size rs hnn (hR.below hW))
  have x0 := (Blk.new w 49 #[.slice (some ⟨b, off, none⟩) n k, .int .i64 room, .int .i64 lost]).alloc (.cells #[.slice none 0 0, .int .i64 0, .int .i64 0] 49)
  have x1 := Blk.new (w.alloc (.cells #[.slice (some ⟨b, off, none⟩) n k, .int .i64 room, .int .i64 lost] 49)) 49 #[.slice none 0 0, .int .i64 0, .int .i64 0]
  rw [World.size_alloc] at x1
  have B0 : Below w.heap.size w ((w.alloc (.cells #[.slice (some ⟨b, off, none⟩) n k, .int .i64 room, .int .i64 lost] 49)).alloc (.cells #[.slice none 0 0, .int .i64 0, .int .i64 0] 49)) := balloc (balloc (Below.refl _ _) _) _
  have hwr : IntKind.i64.wrap ((i : Int) + 1) = (i : Int) + 1 := IntWalk.i64_in _ (by omega)
  have hi2 : (0 : Int) ≤ (i : Int) := by omega
  have hi1 : (i : Int) < (n : Int) := by omega
  have hi3 : (i : Int) + 1 ≤ (n : Int) := by omega
  have hcn : (n : Int) ≤ (k : Int) := by omega
  have HNN := Lib.hid hnn
  have hl1 : (mlC (rs.take i)).length = i * 6 := by rw [mlC_len, List.length_take, show min i rs.length = i by omega]
  have hl2 : (mlC (rs.drop (i + 1))).length = (n - (i + 1)) * 6 := by rw [mlC_len]; simp [hnn]
  have HL1 := Lib.hid hl1
  have HL2 := Lib.hid hl2
  have X := Lib.hid (And.intro x0 (And.intro x1 B0))
  clear hR hA1 hA2 x0 x1 B0 hnn hl1 hl2
  go_enter Try.func52, Try.ntmps52
  go_wp2_with fail
  have HX0 := Lib.hid X.out.1
  have HX1 := Lib.hid X.out.2.1
  have HB2 := Lib.hid X.out.2.2
  have hs2 : w.heap.size + 2 ≤ ((w.alloc (.cells #[.slice (some ⟨b, off, none⟩) n k, .int .i64 room, .int .i64 lost] 49)).alloc (.cells #[.slice none 0 0, .int .i64 0, .int .i64 0] 49)).heap.size := by simp
  clear X
  generalize (w.alloc (.cells #[.slice (some ⟨b, off, none⟩) n k, .int .i64 room, .int .i64 lost] 49)).alloc (.cells #[.slice none 0 0, .int .i64 0, .int .i64 0] 49) = w2 at *
  obtain ⟨d0, d1, d2⟩ := HX0.out.three
  obtain ⟨f0, f1, f2⟩ := HX0.out.ice3
  have da := ((balloc (Below.refl w2.heap.size w2) (.cells #[] 33)).cell (p := ⟨w.heap.size, 0, none⟩) (show w.heap.size < w2.heap.size by omega)).trans d0
  have O0 := Lib.hid (show (w2.alloc (.cells #[] 33)).drew.ownsRow w.heap.size 33 6 (.slice (some ⟨w2.heap.size, 0, none⟩) 0 0) 0 [] from World.ownsRow_lit w2 #[] 0 (by omega) (by simp [maxLen]) (by simp))
  have R0 := Lib.hid (show Rd (w2.alloc (.cells #[] 33)).drew w.heap.size A1 (mlC (rs.take i)) from HR1.out _ (Below.drew (balloc HB2.out (.cells #[] 33))))
  have L0 := Lib.hid (show 0 + i ≤ maxLen by simp only [maxLen]; omega)
  have L1 := Lib.hid (show (0 + i) * 64 ≤ 140737488355328 by omega)
  have L2 := Lib.hid (show w.heap.size ≤ (w2.alloc (.cells #[] 33)).drew.heap.size by show w.heap.size ≤ (w2.alloc _).heap.size; simp; omega)
  have L3 := Lib.hid (show i + (n - (i + 1)) ≤ maxLen by simp only [maxLen]; omega)
  have L4 := Lib.hid (show (i + (n - (i + 1))) * 64 ≤ 140737488355328 by omega)
  have HSZ := Lib.hid (show (w2.alloc (.cells #[] 33)).drew.heap.size = w2.heap.size + 1 by show (w2.alloc _).heap.size = _; simp)
  have hw2 : w.heap.size < w2.heap.size := by omega
  go_region_law
    (first
    | (refine step_append_rd (by rfl) _ _ _ (by rfl) w.heap.size 33 i0 _ 6 64 Try.underlying47 hi0 hz0 hz1 hz2 rfl (by omega) (.slice (some ⟨w2.heap.size, 0, none⟩) 0 0) 0 [] (by rfl) O0.out i k (mlC (rs.take i)) (by rfl) HL1.out R0.out (mlC_one _) L0.out L1.out L2.out ?_; intro A3 c3 w3 o3 r3 a3; simp only [Nat.zero_add, List.nil_append] at o3 a3 ⊢; obtain ⟨F3, own3⟩ := app_a r3 a3; have e0 := F3.cell (a := ⟨w.heap.size, 0, none⟩) d0 hw2; have e1 := (F3.frozen (a := ⟨w.heap.size, 0, none⟩) hw2 hw2).trans f0; have bw3 : Below w.heap.size w w3 := HB2.out.trans (F3.below (Nat.le_of_lt hw2) (fun b hb => Nat.lt_trans hb hw2)))
    | (refine step_append_rd (by rfl) _ _ _ (by rfl) w.heap.size 33 i0 _ 6 64 Try.underlying47 hi0 hz0 hz1 hz2 rfl (by omega) (.slice A3 i c3) i (mlC (rs.take i)) (by rfl) o3 (n - (i + 1)) (k - (i + 1)) (mlC (rs.drop (i + 1))) (by rfl) HL2.out (HR2.out _ bw3) (mlC_one _) L3.out L4.out bw3.size ?_; intro A5 c5 w5 o5 r5 a5; obtain ⟨F5, own5⟩ := app_b F3.2.2.2.1 own3 r5 a5; have e5 := F5.cell (a := ⟨w.heap.size, 0, none⟩) e0 hw2; have e6 := (F5.frozen (a := ⟨w.heap.size, 0, none⟩) (Nat.lt_of_lt_of_le hw2 F3.2.2.2.1) hw2).trans e1))
  all_goals
    have hs3 := F3.2.2.2.1
    have hs5 := F5.2.2.2.1
    have y0 := (F5.blk (F3.blk HX0.out hw2) hw2).set 0 (.slice A5 (i + (n - (i + 1))) c5)
    simp only [List.setIfInBounds_toArray, List.set_cons_zero] at y0
    have y1 := (F5.blk (F3.blk HX1.out (by omega)) (by omega)).far (p := ⟨w.heap.size, 0, none⟩) (show ¬ w.heap.size + 1 = w.heap.size by omega) (.slice A5 (i + (n - (i + 1))) c5)
    have bE : Below w.heap.size w (w5.setCell ⟨w.heap.size, 0, none⟩ (.slice A5 (i + (n - (i + 1))) c5)) := (bw3.trans (F5.below (by omega) (fun b hb => by omega))).setCell (p := ⟨w.heap.size, 0, none⟩) (Nat.le_refl _) _
    have o6 : (w5.setCell ⟨w.heap.size, 0, none⟩ (.slice A5 (i + (n - (i + 1))) c5)).ownsRow w.heap.size 33 6 (.slice A5 (i + (n - (i + 1))) c5) (i + (n - (i + 1))) (mlC (rs.take i) ++ mlC (rs.drop (i + 1))) :=
      own_keep o5 (Nat.le_refl _) (fun q hq _ => Below.heap_setCell w5 _ _ q (by have := own5 q hq; show q ≠ w.heap.size; omega))
    clear d0 d1 d2 f0 f1 f2 e0 e1 e5 e6 da
    obtain ⟨m0, m1, m2⟩ := y0.three
    obtain ⟨k0, k1, k2⟩ := y1.three
    obtain ⟨f0, f1, f2⟩ := y1.ice3
    have FIN := Lib.hid (And.intro bE o6)
    clear bE o6 y0 y1
    generalize w5.setCell ⟨w.heap.size, 0, none⟩ (.slice A5 (i + (n - (i + 1))) c5) = w6 at *
    go_wp2_with fail
    refine bodyPost_ret (v := .agg #[.slice A5 (n - 1) c5, .int .i64 room, .int .i64 lost]) (by simp [results, Try.results52, go_sem, m1, m2, k0, k1, k2, show i + (n - (i + 1)) = n - 1 by omega]) rfl ?_
    have o7 := FIN.out.2
    rw [← mlC_append, take_drop_erase, show i + (n - (i + 1)) = n - 1 by omega] at o7
    have FE : Fr (fun k => k ≠ w.heap.size + 1) w6 (((w6.setCell ⟨w.heap.size + 1, 0, none⟩ (.slice A5 (i + (n - (i + 1))) c5)).setCell ⟨w.heap.size + 1, 1, none⟩ (.int .i64 room)).setCell ⟨w.heap.size + 1, 2, none⟩ (.int .i64 lost)) := ((Fr.refl.put 0 _).put 1 _).put 2 _
    obtain ⟨_, _, he, q1, q2, _⟩ := own_row o7
    injection he with _ _ he
    subst he
    rw [show i + (n - (i + 1)) = n - 1 by omega] at own5
    exact ⟨A5, c5, rfl, ⟨own_keep o7 (Nat.le_refl _) (fun q hq hl => FE.2.2.2.2 q (by have := own5 q hq; omega) hl), q1, q2⟩, FIN.out.1.trans (FE.below FIN.out.1.size (fun b hb => by omega))⟩
end Go.Proofs.Ytgdkobknjgbdbaa
