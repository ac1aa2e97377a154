/- MF: Pk1, Pk2, Pk3, Pk4, Pk5, Pk6, Pk7: several texts in one. -/
import Derived.Test.YtlanfceilajifaaGreatDoorMB
import Derived.Test.YtlanfceilajifaaGreatDoorMD
import Derived.Test.YtlanfceilajifaaGreatDoorME
import Derived.Maps.OwnIn
/- packet: lists of entries; which are the same; a copy. -/
namespace Go.Proofs.YtlanfceilajifaaGreatDoor
set_option linter.unusedVariables false
set_option linter.unusedSimpArgs false
open Go.RowKit
set_option maxRecDepth 100000
/-- an entry -/
structure Er where
  f : Int
  t : Int
  a : Nat
  m : Nat
  x : Nat
  k : Nat
deriving DecidableEq
def erL (e : Er) : List Value := [.int .i64 e.f, .int .i64 e.t, .int .u32 e.a, .int .u32 e.m, .int .u32 e.x, .int .u32 e.k]
def erA (e : Er) : Array Value := #[.int .i64 e.f, .int .i64 e.t, .int .u32 e.a, .int .u32 e.m, .int .u32 e.x, .int .u32 e.k]
/-- its numbers fit -/
def fitR (e : Er) : Prop := e.a < 4294967296 ∧ e.m < 4294967296 ∧ e.x < 4294967296 ∧ e.k < 4294967296
theorem erL_len (e : Er) : (erL e).length = 6 := rfl
theorem erL_one (e : Er) : ∀ u ∈ erL e, u.oneCell' = true := by
  intro u hu
  simp [erL] at hu
  rcases hu with rfl | rfl | rfl | rfl | rfl | rfl <;> rfl
def erC (l : List Er) : List Value := l.flatMap erL
theorem erC_len (l : List Er) : (erC l).length = l.length * 6 := rows_len erL_len l
theorem erC_one (l : List Er) : ∀ u ∈ erC l, u.oneCell' = true := rows_one erL_one l
theorem erC_app (l l' : List Er) : erC (l ++ l') = erC l ++ erC l' := List.flatMap_append ..
theorem er_at {w : World} {B : Nat} {A : Option Addr} {l : List Er} (h : Rd w B A (erC l)) {i : Nat} {x : Er} (hi : l[i]? = some x) :
    ∃ b off, A = some ⟨b, off, none⟩ ∧ b < B ∧ w.cell? ⟨b, off + i * 6, none⟩ = some (.int .i64 x.f) ∧ w.cell? ⟨b, off + i * 6 + 1, none⟩ = some (.int .i64 x.t) ∧ w.cell? ⟨b, off + i * 6 + 2, none⟩ = some (.int .u32 x.a) ∧ w.cell? ⟨b, off + i * 6 + 3, none⟩ = some (.int .u32 x.m) ∧ w.cell? ⟨b, off + i * 6 + 4, none⟩ = some (.int .u32 x.x) ∧ w.cell? ⟨b, off + i * 6 + 5, none⟩ = some (.int .u32 x.k) := by
  obtain ⟨b, off, e, hb, hc⟩ := rows_at erL_len (by omega) h hi
  refine ⟨b, off, e, hb, ?_, ?_, ?_, ?_, ?_, ?_⟩
  · simpa [Nat.add_assoc] using hc 0 _ rfl
  · simpa [Nat.add_assoc] using hc 1 _ rfl
  · simpa [Nat.add_assoc] using hc 2 _ rfl
  · simpa [Nat.add_assoc] using hc 3 _ rfl
  · simpa [Nat.add_assoc] using hc 4 _ rfl
  · simpa [Nat.add_assoc] using hc 5 _ rfl
theorem er_beq (x y : Er) : (x.f == y.f && x.t == y.t && (x.a : Int) == (y.a : Int) && (x.m : Int) == (y.m : Int) && (x.x : Int) == (y.x : Int) && (x.k : Int) == (y.k : Int)) = decide (x = y) := by
  obtain ⟨f, t, a, m, n, k⟩ := x
  obtain ⟨f', t', a', m', n', k'⟩ := y
  simp only [Er.mk.injEq]
  by_cases h : f = f' ∧ t = t' ∧ a = a' ∧ m = m' ∧ n = n' ∧ k = k'
  · rw [decide_eq_true h]
    obtain ⟨rfl, rfl, rfl, rfl, rfl, rfl⟩ := h
    simp
  · rw [decide_eq_false h, Bool.eq_false_iff]
    intro hc
    simp at hc
    obtain ⟨⟨⟨⟨⟨h1, h2⟩, h3⟩, h4⟩, h5⟩, h6⟩ := hc
    exact h ⟨h1, h2, by omega, by omega, by omega, by omega⟩

set_option maxHeartbeats 1000000 in
theorem ersame_any (l l' : List Er) (n n' c c' B B' : Nat) (hn : l.length = n) (hn' : l'.length = n') (A A' : Option Addr) (w : World) (hr : Rd w B A (erC l)) (hr' : Rd w B' A' (erC l')) (hc : n ≤ 9223372036854775807) :
    Calls Tryz.prog 46 #[.slice A n c, .slice A' n' c'] w fun e w' => e = .returned (.bool (decide (l = l'))) ∧ ∃ m, w' = w.drewN m := by
  by_cases hnn : n = n'
  · subst hnn
    have HN := Lib.hid hn
    have HN' := Lib.hid hn'
    have HR := Lib.hid hr
    have HR' := Lib.hid hr'
    have g0 : ((n : Int) != (n : Int)) = false := by simp
    clear hn hn' hr hr'
    go_enter Tryz.func46, Tryz.ntmps46
    go_wp2
    go_loopw [5] (fun i wr => ∃ j : Nat, j ≤ n ∧ i = .int .i64 j ∧ (∃ m, wr = w.drewN m) ∧ l.take j = l'.take j) (fun i _ => n - (intOf i).toNat)
    case atStart => exact ⟨0, Nat.zero_le _, rfl, ⟨0, rfl⟩, by simp⟩
    case round =>
      obtain ⟨j, hj, rfl, ⟨m, rfl⟩, heq⟩ := hrel
      have HEQ := Lib.hid heq
      clear heq
      by_cases hlt : j < n
      · obtain ⟨x, hx⟩ : ∃ x, l[j]? = some x := ⟨l[j]'(by rw [HN.out]; exact hlt), List.getElem?_eq_getElem _⟩
        obtain ⟨y, hy⟩ : ∃ y, l'[j]? = some y := ⟨l'[j]'(by rw [HN'.out]; exact hlt), List.getElem?_eq_getElem _⟩
        obtain ⟨b, off, rfl, _, q0, q1, q2, q3, q4, q5⟩ := er_at HR.out hx
        obtain ⟨b', off', rfl, _, r0, r1, r2, r3, r4, r5⟩ := er_at HR'.out hy
        have HX := Lib.hid hx
        have HY := Lib.hid hy
        have hne := ne_ent x.f x.t x.a x.m x.x x.k y.f y.t y.a y.m y.x y.k
        rw [er_beq] at hne
        have hi1 : (j : Int) < (n : Int) := by omega
        have hi0 : (0 : Int) ≤ (j : Int) := by omega
        clear hx hy
        cases hd : decide (x = y)
        · rw [hd] at hne
          have HF := Lib.hid (show decide (l = l') = false from decide_eq_false (fun h => by
            have := HX.out
            rw [h, HY.out] at this
            exact (of_decide_eq_false hd) (Option.some.inj this).symm))
          clear hd
          go_wp2
          go_quiet (fail)
          go_wp2
          go_ret
          rw [HF.out]
          exact ⟨rfl, _, World.drewN_drewN ..⟩
        · rw [hd] at hne
          have hxy := of_decide_eq_true hd
          have HS := Lib.hid (show l.take (j + 1) = l'.take (j + 1) by rw [List.take_add_one, List.take_add_one, HEQ.out, HX.out, HY.out, hxy])
          clear hd hxy
          go_wp2
          go_quiet (fail)
          go_wp2
          go_roundw
          case rel => exact ⟨j + 1, by omega, by go_num, ⟨_, rfl⟩, HS.out⟩
          case measure => simp [intOf]; omega
      · obtain rfl : j = n := by omega
        have HT := Lib.hid (show decide (l = l') = true from decide_eq_true (by have := HEQ.out; rwa [List.take_of_length_le (by rw [HN.out]; exact Nat.le_refl _), List.take_of_length_le (by rw [HN'.out]; exact Nat.le_refl _)] at this))
        go_wp2
        go_ret
        rw [HT.out]
        exact ⟨rfl, m, rfl⟩
  · have g0 : ((n : Int) != (n' : Int)) = true := by rw [bne_iff_ne]; omega
    rw [show decide (l = l') = false from decide_eq_false (fun h => hnn (by rw [← hn, ← hn', h]))]
    clear hnn hn hn' hr hr'
    go_enter Tryz.func46, Tryz.ntmps46
    go_wp2
    go_ret
    exact ⟨rfl, 0, rfl⟩

end Go.Proofs.YtlanfceilajifaaGreatDoor
/- packet: isCommand, haveBytes, Encode. -/
namespace Go.Proofs.YtlanfceilajifaaGreatDoor
set_option linter.unusedVariables false
set_option linter.unusedSimpArgs false
open Go.RowKit
set_option maxRecDepth 100000
def cmdB (c : Int) : Bool := decide (c = 1 ∨ c = 2)
theorem iscmd_any (c : Int) (w : World) : Calls Tryz.prog 133 #[.int .i64 c] w fun e w' => e = .returned (.bool (cmdB c)) ∧ w = w' := by
  by_cases h1 : c = 1
  · subst h1
    go_enter Tryz.func133, Tryz.ntmps133
    go_wp2
    go_ret
    exact ⟨rfl, rfl⟩
  · by_cases h2 : c = 2
    · subst h2
      go_enter Tryz.func133, Tryz.ntmps133
      go_wp2
      go_ret
      exact ⟨rfl, rfl⟩
    · rw [show cmdB c = false from decide_eq_false (by omega)]
      have g1 : (c == 1) = false := by rw [beq_eq_false_iff_ne]; exact h1
      have g2 : (c == 2) = false := by rw [beq_eq_false_iff_ne]; exact h2
      clear h1 h2
      go_enter Tryz.func133, Tryz.ntmps133
      go_wp2
      go_ret
      exact ⟨rfl, rfl⟩
theorem refcmd_any (c : Int) (w : World) : Calls Tryz.prog 57 #[.int .i64 c] w fun e w' => e = .returned (.bool (cmdB c)) ∧ w = w' := by
  by_cases h1 : c = 1
  · subst h1
    go_enter Tryz.func57, Tryz.ntmps57
    go_wp2
    go_ret
    exact ⟨rfl, rfl⟩
  · by_cases h2 : c = 2
    · subst h2
      go_enter Tryz.func57, Tryz.ntmps57
      go_wp2
      go_ret
      exact ⟨rfl, rfl⟩
    · rw [show cmdB c = false from decide_eq_false (by omega)]
      have g1 : (c == 1) = false := by rw [beq_eq_false_iff_ne]; exact h1
      have g2 : (c == 2) = false := by rw [beq_eq_false_iff_ne]; exact h2
      clear h1 h2
      go_enter Tryz.func57, Tryz.ntmps57
      go_wp2
      go_ret
      exact ⟨rfl, rfl⟩
/-- the bytes of an entry, and whether it has some -/
def enB (e : Er) : List UInt8 := entB e.f.toNat e.t.toNat e.a e.m e.x e.k
def okE (e : Er) : Bool := rightF e.f e.t
theorem enB_len (e : Er) : (enB e).length = 20 := by simp [enB, entB, bs_length]
def esB (l : List Er) : List UInt8 := l.flatMap enB
theorem esB_len (l : List Er) : (esB l).length = l.length * 20 := by
  induction l with
  | nil => rfl
  | cons x l ih => simp only [esB, List.flatMap_cons, List.length_append, enB_len, List.length_cons] at ih ⊢; rw [ih]; omega
theorem okE_parts {e : Er} (h : okE e = true) : e.f = (e.f.toNat : Int) ∧ e.f.toNat < 65536 ∧ e.t = (e.t.toNat : Int) ∧ e.t.toNat < 65536 := by
  have := of_decide_eq_true h
  omega
theorem refebytes_any (e : Er) (w : World) (hf : fitR e) (hok : okE e = true) : Calls Tryz.prog 95 #[.agg (erA e)] w (GivesS (enB e) w) := by
  obtain ⟨f, t, a, m, x, k⟩ := e
  obtain ⟨h1, h2, h3, h4⟩ := okE_parts hok
  have := refEBytes_any f.toNat t.toNat a m x k w h2 h4 hf.1 hf.2.1 hf.2.2.1 hf.2.2.2
  simp only [erA]
  rw [← h1, ← h3] at this
  exact this

/-- what Encode answers -/
def encE (c : Int) (l : List Er) : Int := if cmdB c = false then 2 else if 25 < l.length then 3 else if l.all okE then 0 else 2
def headB (c : Int) : List UInt8 := [UInt8.ofNat c.toNat, 2, 0, 0]
def pkB (c : Int) (l : List Er) : List UInt8 := headB c ++ esB l
def encB (c : Int) (l : List Er) : List UInt8 := if encE c l = 0 then pkB c l else []
theorem gives_none (k : Int) {w w' : World} (h : Below w.heap.size w w') : GivesB [] k w (.returned (.tuple #[.slice none 0 0, .int .i64 k])) w' := ⟨none, 0, rfl, by simp, by omega, Rd.nil, h⟩
theorem esB_step {l : List Er} {j : Nat} {x : Er} (h : l[j]? = some x) : esB (l.take (j + 1)) = esB (l.take j) ++ enB x := by
  unfold esB
  rw [List.take_add_one, h]
  simp
theorem cmd_cases {c : Int} (h : cmdB c = true) : c = 1 ∨ c = 2 := of_decide_eq_true h

set_option maxHeartbeats 4000000 in
theorem refbytes5_any (cm : Int) (l : List Er) (n c : Nat) (hn : l.length = n) (A : Option Addr) (w : World) (hr : Rd w w.heap.size A (erC l)) (hf : ∀ e ∈ l, fitR e) (hcm : cmdB cm = true) (h25 : n ≤ 25) (hall : l.all okE = true) :
    Calls Tryz.prog 59 #[.agg #[.int .i64 cm, .slice A n c]] w (GivesS (pkB cm l) w) := by
  obtain ⟨i0, hi0, hz0, hz1, hz2⟩ := info_parts u8_info
  have HN := Lib.hid hn
  have HR := Lib.hid hr
  have HF := Lib.hid hf
  have hB1 : Below w.heap.size w (w.alloc (.cells #[.int .i64 cm, .slice A n c] 35)) := balloc (Below.refl _ _) _
  have HALL := Lib.hid (List.all_eq_true.1 hall)
  have hX := Blk.new w 35 #[.int .i64 cm, .slice A n c]
  have hcv : IntKind.u8.wrap cm = cm := by rcases cmd_cases hcm with rfl | rfl <;> rfl
  have HHD := Lib.hid (show ([.int .u8 cm, .int .u8 2, .int .u8 0, .int .u8 0] : List Value) = (headB cm).map b8 by rcases cmd_cases hcm with rfl | rfl <;> rfl)
  have HX := Lib.hid hX
  have HB1 := Lib.hid hB1
  have kl := hX.lt
  clear hn hr hf hcm hall hX hB1
  go_enter Tryz.func59, Tryz.ntmps59
  go_wp2_with fail
  have hown : ((w.alloc (.cells #[.int .i64 cm, .slice A n c] 35)).alloc (.cells #[.int .u8 cm, .int .u8 2, .int .u8 0, .int .u8 0] 5)).ownsRow (w.heap.size + 1) 5 1 (.slice (some ⟨w.heap.size + 1, 0, none⟩) 4 4) 4 ((headB cm ++ esB (l.take 0)).map b8) := by
    have := World.ownsRow_lit (base := w.heap.size + 1) (e := 5) (size := 1) (w.alloc (.cells #[.int .i64 cm, .slice A n c] 35)) #[.int .u8 cm, .int .u8 2, .int .u8 0, .int .u8 0] 4 (by simp) (by simp [maxLen]) (by simp)
    simpa [esB, HHD.out] using this
  have hB3 := balloc HB1.out (.cells #[.int .u8 cm, .int .u8 2, .int .u8 0, .int .u8 0] 5)
  have hX3 := HX.out.alloc (.cells #[.int .u8 cm, .int .u8 2, .int .u8 0, .int .u8 0] 5)
  go_loopw [3, 4] (fun v i wr => ∃ j : Nat, j ≤ n ∧ i = .int .i64 j ∧ wr.ownsRow (w.heap.size + 1) 5 1 v (4 + j * 20) ((headB cm ++ esB (l.take j)).map b8) ∧ Below w.heap.size w wr ∧ Blk wr w.heap.size 35 #[.int .i64 cm, .slice A n c]) (fun _ i _ => n - (intOf i).toNat)
  case atStart => exact ⟨0, Nat.zero_le _, rfl, hown, hB3, hX3⟩
  case round =>
    obtain ⟨j, hj, rfl, hown, hb, hx⟩ := hrel
    have HB := Lib.hid hb
    have HO := Lib.hid hown
    have HXX := Lib.hid hx
    have d1 := hx.cell 1
    simp only [List.getElem?_toArray, List.getElem?_cons_zero, List.getElem?_cons_succ] at d1
    have kl := hx.lt
    clear hb hown hx
    by_cases hlt : j < n
    · obtain ⟨x, hx⟩ : ∃ x, l[j]? = some x := ⟨l[j]'(by rw [HN.out]; exact hlt), List.getElem?_eq_getElem _⟩
      obtain ⟨b, off, hAe, _, q0, q1, q2, q3, q4, q5⟩ := er_at (HR.out.below HB.out) hx
      subst hAe
      have HM := Lib.hid (List.mem_of_getElem? hx)
      have HST := Lib.hid (esB_step hx)
      have hj2 : (0 : Int) ≤ (j : Int) ∧ (j : Int) < (n : Int) := by omega
      have hC := refebytes_any x wr (HF.out x HM.out) (HALL.out x HM.out)
      have HL20 := Lib.hid (enB_len x)
      simp only [erA] at hC
      have HC := Lib.hid hC
      clear hC hx
      generalize enB x = ex at *
      go_wp2_with fail
      refine HC.out.mono ?_
      rintro e w5 ⟨A2, c2, rfl, h1, h2, h3, b5, _⟩
      have HB5 := Lib.hid (bnext HB.out b5)
      have hown5 := own_below HO.out b5
      have hX5 := HXX.out.below b5 HXX.out.lt
      have hsz5 := HB5.out.size
      have hsz6 : w.heap.size + 1 ≤ w5.heap.size := by have := hX5.lt; omega
      go_wp2_with (at_builtin; refine wpList_append_rd rfl (.tmp 16) (.tmp 22) _ rfl (w.heap.size + 1) 5 i0 _ 1 1 Tryz.underlying25 hi0 hz0 hz1 hz2 rfl (by omega) u3 _ _ rfl hown5 ex.length c2 (ex.map b8) rfl (by simp) h3 (b8_one _) (by have := HL20.out; simp only [maxLen]; omega) (by have := HL20.out; omega) hsz6 ?_
                   intro v6 w6 ho6 hg6 ha6
                   have hb6 : Below w.heap.size w w6 := HB5.out.grown hg6 hsz5 (fun k hk => by have := (hown5.lt k hk).1; omega)
                   have hX6 : Blk w6 w.heap.size 35 #[.int .i64 cm, .slice (some ⟨b, off, none⟩) n c] := (hg6.block _ hX5.lt (fun e => by have := (hown5.lt _ e.symm).1; omega)).trans hX5
                   rw [← List.map_append, List.append_assoc, ← HST.out] at ho6
                   clear hg6 ha6 hown5)
      go_roundw
      case rel => exact ⟨j + 1, by omega, by go_num, by rw [show 4 + (j + 1) * 20 = 4 + j * 20 + ex.length by rw [HL20.out]; omega]; exact ho6, hb6, hX6⟩
      case measure => simp [intOf]; omega
    · obtain rfl : j = n := by omega
      have ho := HO.out
      rw [List.take_of_length_le (by rw [HN.out]; exact Nat.le_refl _)] at ho
      obtain ⟨A1, c1, he, h1, h2, h3⟩ := own_slice (l := headB cm ++ esB l) (by rw [List.length_append, esB_len, HN.out]; rfl) ho
      have hba := own_base' ho
      subst he
      go_wp2_with fail
      go_ret
      exact ⟨A1, c1, rfl, h1, h2, h3, HB.out, fun a ha => by have := hba a.block (by rw [ha]; rfl); omega⟩
end Go.Proofs.YtlanfceilajifaaGreatDoor
/- packet: what bytes must be. -/
namespace Go.Proofs.YtlanfceilajifaaGreatDoor
set_option linter.unusedVariables false
set_option linter.unusedSimpArgs false
open Go.RowKit
set_option maxRecDepth 100000
theorem rbool {a b : Bool} (h : a = b) : Ending.returned (.bool a) = .returned (.bool b) := by rw [h]
/-- the byte at a place -/
def at8 (l : List UInt8) (i : Nat) : Nat := (l.getD i 0).toNat
theorem at8_lt (l : List UInt8) (i : Nat) : at8 l i < 256 := UInt8.toNat_lt _
theorem rdF_one {l : List UInt8} {i : Nat} (hi : i < l.length) : rdF l i 1 = (at8 l i, 0) := by
  unfold rdF
  rw [if_neg (by decide), if_neg (by omega), if_neg (by omega)]
  simp only [Int.toNat_natCast, Int.toNat_one]
  rw [List.drop_eq_getElem_cons hi, List.take_succ_cons, List.take_zero]
  unfold be at8
  rw [List.getD, List.getElem?_eq_getElem hi]
  simp
theorem rdF_two {l : List UInt8} {i : Nat} (hi : i + 1 < l.length) : rdF l i 2 = (at8 l i * 256 + at8 l (i + 1), 0) := by
  unfold rdF
  rw [if_neg (by decide), if_neg (by omega), if_neg (by omega)]
  simp only [Int.toNat_natCast, show (2 : Int).toNat = 2 from rfl]
  rw [List.drop_eq_getElem_cons (show i < l.length by omega), List.drop_eq_getElem_cons hi, List.take_succ_cons, List.take_succ_cons, List.take_zero]
  unfold be at8
  simp only [List.getD]
  rw [List.getElem?_eq_getElem hi, List.getElem?_eq_getElem (show i < l.length by omega)]
  simp

theorem number_any (l : List UInt8) (n : Nat) (hn : l.length = n) (A : Option Addr) (c B : Nat) (w : World) (hw : WidthsAt w) (h : Rd w B A (l.map b8)) (hlc : n ≤ c) (hc : c ≤ 9223372036854775807) (i k : Int) (v : Nat) (hv : rdF l i k = (v, 0)) (hb : v < 4294967296) :
    Calls Tryz.prog 86 #[.slice A n c, .int .i64 i, .int .i64 k] w fun e w' => e = .returned (.int .i64 v) ∧ w = w' := by
  have HR := Lib.hid (read_any l n hn A c B w hw h hlc hc i k)
  rw [hv] at HR
  have hwr : IntKind.i64.wrap (v : Int) = v := IntWalk.i64_in _ ⟨by omega, by omega⟩
  clear hv h hn
  go_enter Tryz.func86, Tryz.ntmps86
  go_wp2_with (go_at_call 111; refine HR.out.mono ?_; rintro e w' ⟨rfl, rfl⟩)
  go_ret
  exact ⟨rfl, rfl⟩
theorem body_any (l : List UInt8) (n : Nat) (hn : l.length = n) (A : Option Addr) (c B : Nat) (w : World) (h : Rd w B A (l.map b8)) (h4 : 4 ≤ n) (hlc : n ≤ c) (hc : c ≤ 9223372036854775807) :
    Calls Tryz.prog 88 #[.slice A n c] w fun e w' => (∃ A', e = .returned (.slice A' (n - 4) (n - 4)) ∧ Rd w B A' ((l.drop 4).map b8)) ∧ w = w' := by
  have HN := Lib.hid hn
  have HR := Lib.hid h
  obtain ⟨b, off, rfl, _, _⟩ := h (by rw [List.length_map, hn]; omega)
  clear h hn
  by_cases h0 : n = 4
  · subst h0
    go_enter Tryz.func88, Tryz.ntmps88
    go_wp2
    go_ret
    refine ⟨⟨_, rfl, fun h => ?_⟩, rfl⟩
    rw [List.length_map, List.length_drop, HN.out] at h
    omega
  · have hr := rd_drop HR.out 4 (by rw [HN.out]; omega)
    have HD := Lib.hid hr
    have hnc : ¬ n = 4 := h0
    clear hr
    go_enter Tryz.func88, Tryz.ntmps88
    go_wp2
    go_ret
    exact ⟨⟨_, rfl, by simpa [add_plain] using HD.out⟩, rfl⟩
theorem dem1_any (A : Option Addr) (n c : Nat) (w : World) : Calls Tryz.prog 129 #[.agg #[.slice A n c]] w fun e w' => e = .returned (.bool (decide (4 ≤ n))) ∧ Below w.heap.size w w' := by
  go_enter Tryz.func129, Tryz.ntmps129
  go_wp2
  go_ret
  exact ⟨rbool (by rw [decide_eq_decide]; omega), balloc (Below.refl _ _) _⟩
theorem dem2_any (l : List UInt8) (n : Nat) (hn : l.length = n) (A : Option Addr) (c B : Nat) (w : World) (h : Rd w B A (l.map b8)) (h4 : 4 ≤ n) (hlc : n ≤ c) (hc : c ≤ 9223372036854775807) (hB : B ≤ w.heap.size) :
    Calls Tryz.prog 130 #[.agg #[.slice A n c]] w fun e w' => e = .returned (.bool (decide ((n - 4) % 20 = 0 ∧ n ≤ 504))) ∧ Below w.heap.size w w' := by
  have HBD := Lib.hid (body_any l n hn A c B _ (h.alloc hB (.cells #[.slice A n c] 163)) h4 hlc hc)
  clear h hn
  go_enter Tryz.func130, Tryz.ntmps130
  go_wp2_with (go_at_call 88; refine HBD.out.mono ?_; rintro e w' ⟨⟨A', rfl, _⟩, rfl⟩)
  all_goals
    first
    | (refine bodyPost_ret (v := .bool false) (by simp [results, Tryz.results130, go_sem]) rfl ⟨rbool ?_, balloc (Below.refl _ _) _⟩
       exact (decide_eq_false (by omega)).symm)
    | (refine bodyPost_ret (v := .bool (decide (((n - 4 : Nat) : Int) ≤ 500))) (by simp [results, Tryz.results130, go_sem]) rfl ⟨rbool ?_, balloc (Below.refl _ _) _⟩
       exact decide_eq_decide.2 (by omega))
theorem dem3_any (l : List UInt8) (n : Nat) (hn : l.length = n) (A : Option Addr) (c B : Nat) (w : World) (hw : WidthsAt w) (h : Rd w B A (l.map b8)) (h4 : 4 ≤ n) (hlc : n ≤ c) (hc : c ≤ 9223372036854775807) (hB : B ≤ w.heap.size) :
    Calls Tryz.prog 131 #[.agg #[.slice A n c]] w fun e w' => e = .returned (.bool (decide (at8 l 1 = 2))) ∧ Below w.heap.size w w' := by
  have hb1 : Below w.heap.size w (w.alloc (.cells #[.slice A n c] 163)) := balloc (Below.refl _ _) _
  have l0 := at8_lt l 1
  have l1 := at8_lt l 2
  have HNB := Lib.hid (number_any l n hn A c B _ (hw.below hb1) (h.below (hb1.mono hB)) hlc hc 1 1 (at8 l 1) (rdF_one (l := l) (i := 1) (by omega)) (by omega))
  clear h hn hb1
  go_enter Tryz.func131, Tryz.ntmps131
  go_wp2_with (first | (go_at_call 86; refine HNB.out.mono ?_; rintro e w' ⟨rfl, rfl⟩))
  go_ret
  exact ⟨rbool (by rw [Bool.eq_iff_iff, beq_iff_eq, decide_eq_true_eq]; omega), balloc (Below.refl _ _) _⟩
theorem dem4_any (l : List UInt8) (n : Nat) (hn : l.length = n) (A : Option Addr) (c B : Nat) (w : World) (hw : WidthsAt w) (h : Rd w B A (l.map b8)) (h4 : 4 ≤ n) (hlc : n ≤ c) (hc : c ≤ 9223372036854775807) (hB : B ≤ w.heap.size) :
    Calls Tryz.prog 132 #[.agg #[.slice A n c]] w fun e w' => e = .returned (.bool (cmdB (at8 l 0))) ∧ Below w.heap.size w w' := by
  have hb1 : Below w.heap.size w (w.alloc (.cells #[.slice A n c] 163)) := balloc (Below.refl _ _) _
  have l0 := at8_lt l 0
  have l1 := at8_lt l 1
  have HNB := Lib.hid (number_any l n hn A c B _ (hw.below hb1) (h.below (hb1.mono hB)) hlc hc 0 1 (at8 l 0) (rdF_one (l := l) (i := 0) (by omega)) (by omega))
  clear h hn hb1
  go_enter Tryz.func132, Tryz.ntmps132
  go_wp2_with (first | (go_at_call 86; refine HNB.out.mono ?_; rintro e w' ⟨rfl, rfl⟩) | (go_at_call 133; refine (iscmd_any _ _).mono ?_; rintro e w' ⟨rfl, rfl⟩))
  go_ret
  exact ⟨rbool (rfl), balloc (Below.refl _ _) _⟩
theorem dem5_any (l : List UInt8) (n : Nat) (hn : l.length = n) (A : Option Addr) (c B : Nat) (w : World) (hw : WidthsAt w) (h : Rd w B A (l.map b8)) (h4 : 4 ≤ n) (hlc : n ≤ c) (hc : c ≤ 9223372036854775807) (hB : B ≤ w.heap.size) :
    Calls Tryz.prog 134 #[.agg #[.slice A n c]] w fun e w' => e = .returned (.bool (decide (at8 l 2 * 256 + at8 l 3 = 0))) ∧ Below w.heap.size w w' := by
  have hb1 : Below w.heap.size w (w.alloc (.cells #[.slice A n c] 163)) := balloc (Below.refl _ _) _
  have l0 := at8_lt l 2
  have l1 := at8_lt l 3
  have HNB := Lib.hid (number_any l n hn A c B _ (hw.below hb1) (h.below (hb1.mono hB)) hlc hc 2 2 (at8 l 2 * 256 + at8 l 3) (rdF_two (l := l) (i := 2) (by omega)) (by omega))
  clear h hn hb1
  go_enter Tryz.func134, Tryz.ntmps134
  go_wp2_with (first | (go_at_call 86; refine HNB.out.mono ?_; rintro e w' ⟨rfl, rfl⟩))
  go_ret
  exact ⟨rbool (by rw [Bool.eq_iff_iff, beq_iff_eq, decide_eq_true_eq]; omega), balloc (Below.refl _ _) _⟩

/-- the table of demands -/
def demC : Array Value := #[.int .i64 150, .func (.func 129) #[] #[], .int .i64 151, .func (.func 130) #[] #[], .int .i64 152, .func (.func 131) #[] #[], .int .i64 153, .func (.func 132) #[] #[], .int .i64 154, .func (.func 134) #[] #[]]
set_option maxHeartbeats 1000000 in
theorem demands_any (w : World) : Calls Tryz.prog 110 #[] w fun e w' => e = .returned (.slice (some ⟨w.heap.size, 0, none⟩) 5 5) ∧ Blk w' w.heap.size 198 demC ∧ Below w.heap.size w w' := by
  go_enter Tryz.func110, Tryz.ntmps110
  go_wp2
  go_ret
  exact ⟨rfl, Blk.new w 198 demC, by go_grown⟩
/-- the error of bytes -/
def decE (l : List UInt8) : Int := if l.length < 4 then 150 else if ¬ ((l.length - 4) % 20 = 0 ∧ l.length ≤ 504) then 151 else if at8 l 1 ≠ 2 then 152 else if cmdB (at8 l 0) = false then 153 else if at8 l 2 * 256 + at8 l 3 ≠ 0 then 154 else 0
def mustK (k : Int) : Ending := if k = 0 then .returned (.tuple #[]) else .panicked [{ v := .iface 159 (.int .i64 k), recovered := false }]

set_option maxHeartbeats 8000000 in
theorem must_any (l : List UInt8) (n : Nat) (hn : l.length = n) (A : Option Addr) (c B : Nat) (w : World) (hw : WidthsAt w) (h : Rd w B A (l.map b8)) (hlc : n ≤ c) (hc : c ≤ 9223372036854775807) (hB : B ≤ w.heap.size) :
    Calls Tryz.prog 85 #[.agg #[.slice A n c]] w fun e w' => e = mustK (decE l) ∧ Below w.heap.size w w' := by
  have HN := Lib.hid hn
  have HD1 := Lib.hid (fun W (hW : Below w.heap.size w W) => dem1_any A n c W)
  have HD2 := Lib.hid (fun W (hW : Below w.heap.size w W) (h4 : 4 ≤ n) => dem2_any l n hn A c B W (h.below (hW.mono hB)) h4 hlc hc (Nat.le_trans hB hW.size))
  have HD3 := Lib.hid (fun W (hW : Below w.heap.size w W) (h4 : 4 ≤ n) => dem3_any l n hn A c B W (hw.below hW) (h.below (hW.mono hB)) h4 hlc hc (Nat.le_trans hB hW.size))
  have HD4 := Lib.hid (fun W (hW : Below w.heap.size w W) (h4 : 4 ≤ n) => dem4_any l n hn A c B W (hw.below hW) (h.below (hW.mono hB)) h4 hlc hc (Nat.le_trans hB hW.size))
  have HD5 := Lib.hid (fun W (hW : Below w.heap.size w W) (h4 : 4 ≤ n) => dem5_any l n hn A c B W (hw.below hW) (h.below (hW.mono hB)) h4 hlc hc (Nat.le_trans hB hW.size))
  clear hn hw h
  by_cases h1 : 4 ≤ n
  case neg =>
    rw [show decE l = 150 by unfold decE; rw [if_pos (by rw [HN.out]; omega)]]
    have HQ1 := Lib.hid (show decide (4 ≤ n) = false from decide_eq_false h1)
    clear h1
    go_enter Tryz.func85, Tryz.ntmps85
    go_wp2_with fail
    refine (demands_any _).mono ?_
    rintro e w1 ⟨rfl, T1, b1⟩
    have R1 := (Blk.new w 163 #[.slice A n c]).below b1 (by simp)
    have c1 := bnext (balloc (Below.refl _ w) _) b1
    unfold demC at T1
    simp only [World.size_alloc] at T1
    have t0 := (T1).cell 0
    have t1 := (T1).cell 1
    have t2 := (T1).cell 2
    have t3 := (T1).cell 3
    have t4 := (T1).cell 4
    have t5 := (T1).cell 5
    have t6 := (T1).cell 6
    have t7 := (T1).cell 7
    have t8 := (T1).cell 8
    have t9 := (T1).cell 9
    simp only [List.getElem?_toArray, List.getElem?_cons_zero, List.getElem?_cons_succ] at t0 t1 t2 t3 t4 t5 t6 t7 t8 t9
    have f0 := (R1).cell 0
    simp only [List.getElem?_toArray, List.getElem?_cons_zero, List.getElem?_cons_succ] at f0
    have z1 := T1.lt
    have y1 := R1.lt
    clear b1
    go_wp2_with fail
    refine wp_loop_rounds 6 ?_
    rw [rounds_succ]
    go_wp2_with fail
    refine (HD1.out _ (balloc c1 _)).mono ?_
    rw [HQ1.out]
    rintro e w2 ⟨rfl, b2⟩
    have p2 := bnext (balloc (Below.refl _ w1) _) b2
    have T2 := T1.below p2 T1.lt
    have R2 := R1.below p2 R1.lt
    have q2 := (Blk.new w1 198 #[.int .i64 150, .func (.func 129) #[] #[]]).below b2 (by simp)
    have q0 := (q2).cell 0
    have q1 := (q2).cell 1
    simp only [List.getElem?_toArray, List.getElem?_cons_zero, List.getElem?_cons_succ] at q0 q1
    have c2 := bnext c1 p2
    clear T1 R1 c1 z1 y1 b2 p2 q2
    clear t0 t1 t2 t3 t4 t5 t6 t7 t8 t9 f0
    have t0 := (T2).cell 0
    have t1 := (T2).cell 1
    have t2 := (T2).cell 2
    have t3 := (T2).cell 3
    have t4 := (T2).cell 4
    have t5 := (T2).cell 5
    have t6 := (T2).cell 6
    have t7 := (T2).cell 7
    have t8 := (T2).cell 8
    have t9 := (T2).cell 9
    simp only [List.getElem?_toArray, List.getElem?_cons_zero, List.getElem?_cons_succ] at t0 t1 t2 t3 t4 t5 t6 t7 t8 t9
    have f0 := (R2).cell 0
    simp only [List.getElem?_toArray, List.getElem?_cons_zero, List.getElem?_cons_succ] at f0
    have z2 := T2.lt
    have y2 := R2.lt
    go_wp2_with fail
    exact ⟨rfl, rfl, c2⟩
  by_cases h2 : (n - 4) % 20 = 0 ∧ n ≤ 504
  case neg =>
    rw [show decE l = 151 by unfold decE; rw [if_neg (by rw [HN.out]; omega), if_pos (by rw [HN.out]; exact h2)]]
    have HQ1 := Lib.hid (show decide (4 ≤ n) = true from decide_eq_true h1)
    have HQ2 := Lib.hid (show decide ((n - 4) % 20 = 0 ∧ n ≤ 504) = false from decide_eq_false h2)
    have H4 := Lib.hid h1
    clear h1 h2
    go_enter Tryz.func85, Tryz.ntmps85
    go_wp2_with fail
    refine (demands_any _).mono ?_
    rintro e w1 ⟨rfl, T1, b1⟩
    have R1 := (Blk.new w 163 #[.slice A n c]).below b1 (by simp)
    have c1 := bnext (balloc (Below.refl _ w) _) b1
    unfold demC at T1
    simp only [World.size_alloc] at T1
    have t0 := (T1).cell 0
    have t1 := (T1).cell 1
    have t2 := (T1).cell 2
    have t3 := (T1).cell 3
    have t4 := (T1).cell 4
    have t5 := (T1).cell 5
    have t6 := (T1).cell 6
    have t7 := (T1).cell 7
    have t8 := (T1).cell 8
    have t9 := (T1).cell 9
    simp only [List.getElem?_toArray, List.getElem?_cons_zero, List.getElem?_cons_succ] at t0 t1 t2 t3 t4 t5 t6 t7 t8 t9
    have f0 := (R1).cell 0
    simp only [List.getElem?_toArray, List.getElem?_cons_zero, List.getElem?_cons_succ] at f0
    have z1 := T1.lt
    have y1 := R1.lt
    clear b1
    go_wp2_with fail
    refine wp_loop_rounds 6 ?_
    rw [rounds_succ]
    go_wp2_with fail
    refine (HD1.out _ (balloc c1 _)).mono ?_
    rw [HQ1.out]
    rintro e w2 ⟨rfl, b2⟩
    have p2 := bnext (balloc (Below.refl _ w1) _) b2
    have T2 := T1.below p2 T1.lt
    have R2 := R1.below p2 R1.lt
    have q2 := (Blk.new w1 198 #[.int .i64 150, .func (.func 129) #[] #[]]).below b2 (by simp)
    have q0 := (q2).cell 0
    have q1 := (q2).cell 1
    simp only [List.getElem?_toArray, List.getElem?_cons_zero, List.getElem?_cons_succ] at q0 q1
    have c2 := bnext c1 p2
    clear T1 R1 c1 z1 y1 b2 p2 q2
    clear t0 t1 t2 t3 t4 t5 t6 t7 t8 t9 f0
    have t0 := (T2).cell 0
    have t1 := (T2).cell 1
    have t2 := (T2).cell 2
    have t3 := (T2).cell 3
    have t4 := (T2).cell 4
    have t5 := (T2).cell 5
    have t6 := (T2).cell 6
    have t7 := (T2).cell 7
    have t8 := (T2).cell 8
    have t9 := (T2).cell 9
    simp only [List.getElem?_toArray, List.getElem?_cons_zero, List.getElem?_cons_succ] at t0 t1 t2 t3 t4 t5 t6 t7 t8 t9
    have f0 := (R2).cell 0
    simp only [List.getElem?_toArray, List.getElem?_cons_zero, List.getElem?_cons_succ] at f0
    have z2 := T2.lt
    have y2 := R2.lt
    clear q0 q1
    go_wp2_with fail
    rw [rounds_succ]
    go_wp2_with fail
    refine (HD2.out _ (balloc c2 _) H4.out).mono ?_
    rw [HQ2.out]
    rintro e w3 ⟨rfl, b3⟩
    have p3 := bnext (balloc (Below.refl _ w2) _) b3
    have T3 := T2.below p3 T2.lt
    have R3 := R2.below p3 R2.lt
    have q3 := (Blk.new w2 198 #[.int .i64 151, .func (.func 130) #[] #[]]).below b3 (by simp)
    have q0 := (q3).cell 0
    have q1 := (q3).cell 1
    simp only [List.getElem?_toArray, List.getElem?_cons_zero, List.getElem?_cons_succ] at q0 q1
    have c3 := bnext c2 p3
    clear T2 R2 c2 z2 y2 b3 p3 q3
    clear t0 t1 t2 t3 t4 t5 t6 t7 t8 t9 f0
    have t0 := (T3).cell 0
    have t1 := (T3).cell 1
    have t2 := (T3).cell 2
    have t3 := (T3).cell 3
    have t4 := (T3).cell 4
    have t5 := (T3).cell 5
    have t6 := (T3).cell 6
    have t7 := (T3).cell 7
    have t8 := (T3).cell 8
    have t9 := (T3).cell 9
    simp only [List.getElem?_toArray, List.getElem?_cons_zero, List.getElem?_cons_succ] at t0 t1 t2 t3 t4 t5 t6 t7 t8 t9
    have f0 := (R3).cell 0
    simp only [List.getElem?_toArray, List.getElem?_cons_zero, List.getElem?_cons_succ] at f0
    have z3 := T3.lt
    have y3 := R3.lt
    go_wp2_with fail
    exact ⟨rfl, rfl, c3⟩
  by_cases h3 : at8 l 1 = 2
  case neg =>
    rw [show decE l = 152 by unfold decE; rw [if_neg (by rw [HN.out]; omega), if_neg (by rw [HN.out]; exact fun hh => hh h2), if_pos h3]]
    have HQ1 := Lib.hid (show decide (4 ≤ n) = true from decide_eq_true h1)
    have HQ2 := Lib.hid (show decide ((n - 4) % 20 = 0 ∧ n ≤ 504) = true from decide_eq_true h2)
    have HQ3 := Lib.hid (show decide (at8 l 1 = 2) = false from decide_eq_false h3)
    have H4 := Lib.hid h1
    clear h1 h2 h3
    go_enter Tryz.func85, Tryz.ntmps85
    go_wp2_with fail
    refine (demands_any _).mono ?_
    rintro e w1 ⟨rfl, T1, b1⟩
    have R1 := (Blk.new w 163 #[.slice A n c]).below b1 (by simp)
    have c1 := bnext (balloc (Below.refl _ w) _) b1
    unfold demC at T1
    simp only [World.size_alloc] at T1
    have t0 := (T1).cell 0
    have t1 := (T1).cell 1
    have t2 := (T1).cell 2
    have t3 := (T1).cell 3
    have t4 := (T1).cell 4
    have t5 := (T1).cell 5
    have t6 := (T1).cell 6
    have t7 := (T1).cell 7
    have t8 := (T1).cell 8
    have t9 := (T1).cell 9
    simp only [List.getElem?_toArray, List.getElem?_cons_zero, List.getElem?_cons_succ] at t0 t1 t2 t3 t4 t5 t6 t7 t8 t9
    have f0 := (R1).cell 0
    simp only [List.getElem?_toArray, List.getElem?_cons_zero, List.getElem?_cons_succ] at f0
    have z1 := T1.lt
    have y1 := R1.lt
    clear b1
    go_wp2_with fail
    refine wp_loop_rounds 6 ?_
    rw [rounds_succ]
    go_wp2_with fail
    refine (HD1.out _ (balloc c1 _)).mono ?_
    rw [HQ1.out]
    rintro e w2 ⟨rfl, b2⟩
    have p2 := bnext (balloc (Below.refl _ w1) _) b2
    have T2 := T1.below p2 T1.lt
    have R2 := R1.below p2 R1.lt
    have q2 := (Blk.new w1 198 #[.int .i64 150, .func (.func 129) #[] #[]]).below b2 (by simp)
    have q0 := (q2).cell 0
    have q1 := (q2).cell 1
    simp only [List.getElem?_toArray, List.getElem?_cons_zero, List.getElem?_cons_succ] at q0 q1
    have c2 := bnext c1 p2
    clear T1 R1 c1 z1 y1 b2 p2 q2
    clear t0 t1 t2 t3 t4 t5 t6 t7 t8 t9 f0
    have t0 := (T2).cell 0
    have t1 := (T2).cell 1
    have t2 := (T2).cell 2
    have t3 := (T2).cell 3
    have t4 := (T2).cell 4
    have t5 := (T2).cell 5
    have t6 := (T2).cell 6
    have t7 := (T2).cell 7
    have t8 := (T2).cell 8
    have t9 := (T2).cell 9
    simp only [List.getElem?_toArray, List.getElem?_cons_zero, List.getElem?_cons_succ] at t0 t1 t2 t3 t4 t5 t6 t7 t8 t9
    have f0 := (R2).cell 0
    simp only [List.getElem?_toArray, List.getElem?_cons_zero, List.getElem?_cons_succ] at f0
    have z2 := T2.lt
    have y2 := R2.lt
    clear q0 q1
    go_wp2_with fail
    rw [rounds_succ]
    go_wp2_with fail
    refine (HD2.out _ (balloc c2 _) H4.out).mono ?_
    rw [HQ2.out]
    rintro e w3 ⟨rfl, b3⟩
    have p3 := bnext (balloc (Below.refl _ w2) _) b3
    have T3 := T2.below p3 T2.lt
    have R3 := R2.below p3 R2.lt
    have q3 := (Blk.new w2 198 #[.int .i64 151, .func (.func 130) #[] #[]]).below b3 (by simp)
    have q0 := (q3).cell 0
    have q1 := (q3).cell 1
    simp only [List.getElem?_toArray, List.getElem?_cons_zero, List.getElem?_cons_succ] at q0 q1
    have c3 := bnext c2 p3
    clear T2 R2 c2 z2 y2 b3 p3 q3
    clear t0 t1 t2 t3 t4 t5 t6 t7 t8 t9 f0
    have t0 := (T3).cell 0
    have t1 := (T3).cell 1
    have t2 := (T3).cell 2
    have t3 := (T3).cell 3
    have t4 := (T3).cell 4
    have t5 := (T3).cell 5
    have t6 := (T3).cell 6
    have t7 := (T3).cell 7
    have t8 := (T3).cell 8
    have t9 := (T3).cell 9
    simp only [List.getElem?_toArray, List.getElem?_cons_zero, List.getElem?_cons_succ] at t0 t1 t2 t3 t4 t5 t6 t7 t8 t9
    have f0 := (R3).cell 0
    simp only [List.getElem?_toArray, List.getElem?_cons_zero, List.getElem?_cons_succ] at f0
    have z3 := T3.lt
    have y3 := R3.lt
    clear q0 q1
    go_wp2_with fail
    rw [rounds_succ]
    go_wp2_with fail
    refine (HD3.out _ (balloc c3 _) H4.out).mono ?_
    rw [HQ3.out]
    rintro e w4 ⟨rfl, b4⟩
    have p4 := bnext (balloc (Below.refl _ w3) _) b4
    have T4 := T3.below p4 T3.lt
    have R4 := R3.below p4 R3.lt
    have q4 := (Blk.new w3 198 #[.int .i64 152, .func (.func 131) #[] #[]]).below b4 (by simp)
    have q0 := (q4).cell 0
    have q1 := (q4).cell 1
    simp only [List.getElem?_toArray, List.getElem?_cons_zero, List.getElem?_cons_succ] at q0 q1
    have c4 := bnext c3 p4
    clear T3 R3 c3 z3 y3 b4 p4 q4
    clear t0 t1 t2 t3 t4 t5 t6 t7 t8 t9 f0
    have t0 := (T4).cell 0
    have t1 := (T4).cell 1
    have t2 := (T4).cell 2
    have t3 := (T4).cell 3
    have t4 := (T4).cell 4
    have t5 := (T4).cell 5
    have t6 := (T4).cell 6
    have t7 := (T4).cell 7
    have t8 := (T4).cell 8
    have t9 := (T4).cell 9
    simp only [List.getElem?_toArray, List.getElem?_cons_zero, List.getElem?_cons_succ] at t0 t1 t2 t3 t4 t5 t6 t7 t8 t9
    have f0 := (R4).cell 0
    simp only [List.getElem?_toArray, List.getElem?_cons_zero, List.getElem?_cons_succ] at f0
    have z4 := T4.lt
    have y4 := R4.lt
    go_wp2_with fail
    exact ⟨rfl, rfl, c4⟩
  by_cases h4 : cmdB (at8 l 0) = true
  case neg =>
    rw [show decE l = 153 by unfold decE; rw [if_neg (by rw [HN.out]; omega), if_neg (by rw [HN.out]; exact fun hh => hh h2), if_neg (by intro hh; exact hh h3), if_pos (by simpa using h4)]]
    have HQ1 := Lib.hid (show decide (4 ≤ n) = true from decide_eq_true h1)
    have HQ2 := Lib.hid (show decide ((n - 4) % 20 = 0 ∧ n ≤ 504) = true from decide_eq_true h2)
    have HQ3 := Lib.hid (show decide (at8 l 1 = 2) = true from decide_eq_true h3)
    have HQ4 := Lib.hid (show cmdB (at8 l 0) = false from by simpa using h4)
    have H4 := Lib.hid h1
    clear h1 h2 h3 h4
    go_enter Tryz.func85, Tryz.ntmps85
    go_wp2_with fail
    refine (demands_any _).mono ?_
    rintro e w1 ⟨rfl, T1, b1⟩
    have R1 := (Blk.new w 163 #[.slice A n c]).below b1 (by simp)
    have c1 := bnext (balloc (Below.refl _ w) _) b1
    unfold demC at T1
    simp only [World.size_alloc] at T1
    have t0 := (T1).cell 0
    have t1 := (T1).cell 1
    have t2 := (T1).cell 2
    have t3 := (T1).cell 3
    have t4 := (T1).cell 4
    have t5 := (T1).cell 5
    have t6 := (T1).cell 6
    have t7 := (T1).cell 7
    have t8 := (T1).cell 8
    have t9 := (T1).cell 9
    simp only [List.getElem?_toArray, List.getElem?_cons_zero, List.getElem?_cons_succ] at t0 t1 t2 t3 t4 t5 t6 t7 t8 t9
    have f0 := (R1).cell 0
    simp only [List.getElem?_toArray, List.getElem?_cons_zero, List.getElem?_cons_succ] at f0
    have z1 := T1.lt
    have y1 := R1.lt
    clear b1
    go_wp2_with fail
    refine wp_loop_rounds 6 ?_
    rw [rounds_succ]
    go_wp2_with fail
    refine (HD1.out _ (balloc c1 _)).mono ?_
    rw [HQ1.out]
    rintro e w2 ⟨rfl, b2⟩
    have p2 := bnext (balloc (Below.refl _ w1) _) b2
    have T2 := T1.below p2 T1.lt
    have R2 := R1.below p2 R1.lt
    have q2 := (Blk.new w1 198 #[.int .i64 150, .func (.func 129) #[] #[]]).below b2 (by simp)
    have q0 := (q2).cell 0
    have q1 := (q2).cell 1
    simp only [List.getElem?_toArray, List.getElem?_cons_zero, List.getElem?_cons_succ] at q0 q1
    have c2 := bnext c1 p2
    clear T1 R1 c1 z1 y1 b2 p2 q2
    clear t0 t1 t2 t3 t4 t5 t6 t7 t8 t9 f0
    have t0 := (T2).cell 0
    have t1 := (T2).cell 1
    have t2 := (T2).cell 2
    have t3 := (T2).cell 3
    have t4 := (T2).cell 4
    have t5 := (T2).cell 5
    have t6 := (T2).cell 6
    have t7 := (T2).cell 7
    have t8 := (T2).cell 8
    have t9 := (T2).cell 9
    simp only [List.getElem?_toArray, List.getElem?_cons_zero, List.getElem?_cons_succ] at t0 t1 t2 t3 t4 t5 t6 t7 t8 t9
    have f0 := (R2).cell 0
    simp only [List.getElem?_toArray, List.getElem?_cons_zero, List.getElem?_cons_succ] at f0
    have z2 := T2.lt
    have y2 := R2.lt
    clear q0 q1
    go_wp2_with fail
    rw [rounds_succ]
    go_wp2_with fail
    refine (HD2.out _ (balloc c2 _) H4.out).mono ?_
    rw [HQ2.out]
    rintro e w3 ⟨rfl, b3⟩
    have p3 := bnext (balloc (Below.refl _ w2) _) b3
    have T3 := T2.below p3 T2.lt
    have R3 := R2.below p3 R2.lt
    have q3 := (Blk.new w2 198 #[.int .i64 151, .func (.func 130) #[] #[]]).below b3 (by simp)
    have q0 := (q3).cell 0
    have q1 := (q3).cell 1
    simp only [List.getElem?_toArray, List.getElem?_cons_zero, List.getElem?_cons_succ] at q0 q1
    have c3 := bnext c2 p3
    clear T2 R2 c2 z2 y2 b3 p3 q3
    clear t0 t1 t2 t3 t4 t5 t6 t7 t8 t9 f0
    have t0 := (T3).cell 0
    have t1 := (T3).cell 1
    have t2 := (T3).cell 2
    have t3 := (T3).cell 3
    have t4 := (T3).cell 4
    have t5 := (T3).cell 5
    have t6 := (T3).cell 6
    have t7 := (T3).cell 7
    have t8 := (T3).cell 8
    have t9 := (T3).cell 9
    simp only [List.getElem?_toArray, List.getElem?_cons_zero, List.getElem?_cons_succ] at t0 t1 t2 t3 t4 t5 t6 t7 t8 t9
    have f0 := (R3).cell 0
    simp only [List.getElem?_toArray, List.getElem?_cons_zero, List.getElem?_cons_succ] at f0
    have z3 := T3.lt
    have y3 := R3.lt
    clear q0 q1
    go_wp2_with fail
    rw [rounds_succ]
    go_wp2_with fail
    refine (HD3.out _ (balloc c3 _) H4.out).mono ?_
    rw [HQ3.out]
    rintro e w4 ⟨rfl, b4⟩
    have p4 := bnext (balloc (Below.refl _ w3) _) b4
    have T4 := T3.below p4 T3.lt
    have R4 := R3.below p4 R3.lt
    have q4 := (Blk.new w3 198 #[.int .i64 152, .func (.func 131) #[] #[]]).below b4 (by simp)
    have q0 := (q4).cell 0
    have q1 := (q4).cell 1
    simp only [List.getElem?_toArray, List.getElem?_cons_zero, List.getElem?_cons_succ] at q0 q1
    have c4 := bnext c3 p4
    clear T3 R3 c3 z3 y3 b4 p4 q4
    clear t0 t1 t2 t3 t4 t5 t6 t7 t8 t9 f0
    have t0 := (T4).cell 0
    have t1 := (T4).cell 1
    have t2 := (T4).cell 2
    have t3 := (T4).cell 3
    have t4 := (T4).cell 4
    have t5 := (T4).cell 5
    have t6 := (T4).cell 6
    have t7 := (T4).cell 7
    have t8 := (T4).cell 8
    have t9 := (T4).cell 9
    simp only [List.getElem?_toArray, List.getElem?_cons_zero, List.getElem?_cons_succ] at t0 t1 t2 t3 t4 t5 t6 t7 t8 t9
    have f0 := (R4).cell 0
    simp only [List.getElem?_toArray, List.getElem?_cons_zero, List.getElem?_cons_succ] at f0
    have z4 := T4.lt
    have y4 := R4.lt
    clear q0 q1
    go_wp2_with fail
    rw [rounds_succ]
    go_wp2_with fail
    refine (HD4.out _ (balloc c4 _) H4.out).mono ?_
    rw [HQ4.out]
    rintro e w5 ⟨rfl, b5⟩
    have p5 := bnext (balloc (Below.refl _ w4) _) b5
    have T5 := T4.below p5 T4.lt
    have R5 := R4.below p5 R4.lt
    have q5 := (Blk.new w4 198 #[.int .i64 153, .func (.func 132) #[] #[]]).below b5 (by simp)
    have q0 := (q5).cell 0
    have q1 := (q5).cell 1
    simp only [List.getElem?_toArray, List.getElem?_cons_zero, List.getElem?_cons_succ] at q0 q1
    have c5 := bnext c4 p5
    clear T4 R4 c4 z4 y4 b5 p5 q5
    clear t0 t1 t2 t3 t4 t5 t6 t7 t8 t9 f0
    have t0 := (T5).cell 0
    have t1 := (T5).cell 1
    have t2 := (T5).cell 2
    have t3 := (T5).cell 3
    have t4 := (T5).cell 4
    have t5 := (T5).cell 5
    have t6 := (T5).cell 6
    have t7 := (T5).cell 7
    have t8 := (T5).cell 8
    have t9 := (T5).cell 9
    simp only [List.getElem?_toArray, List.getElem?_cons_zero, List.getElem?_cons_succ] at t0 t1 t2 t3 t4 t5 t6 t7 t8 t9
    have f0 := (R5).cell 0
    simp only [List.getElem?_toArray, List.getElem?_cons_zero, List.getElem?_cons_succ] at f0
    have z5 := T5.lt
    have y5 := R5.lt
    go_wp2_with fail
    exact ⟨rfl, rfl, c5⟩
  by_cases h5 : at8 l 2 * 256 + at8 l 3 = 0
  case neg =>
    rw [show decE l = 154 by unfold decE; rw [if_neg (by rw [HN.out]; omega), if_neg (by rw [HN.out]; exact fun hh => hh h2), if_neg (by intro hh; exact hh h3), if_neg (by rw [h4]; simp), if_pos h5]]
    have HQ1 := Lib.hid (show decide (4 ≤ n) = true from decide_eq_true h1)
    have HQ2 := Lib.hid (show decide ((n - 4) % 20 = 0 ∧ n ≤ 504) = true from decide_eq_true h2)
    have HQ3 := Lib.hid (show decide (at8 l 1 = 2) = true from decide_eq_true h3)
    have HQ4 := Lib.hid (show cmdB (at8 l 0) = true from h4)
    have HQ5 := Lib.hid (show decide (at8 l 2 * 256 + at8 l 3 = 0) = false from decide_eq_false h5)
    have H4 := Lib.hid h1
    clear h1 h2 h3 h4 h5
    go_enter Tryz.func85, Tryz.ntmps85
    go_wp2_with fail
    refine (demands_any _).mono ?_
    rintro e w1 ⟨rfl, T1, b1⟩
    have R1 := (Blk.new w 163 #[.slice A n c]).below b1 (by simp)
    have c1 := bnext (balloc (Below.refl _ w) _) b1
    unfold demC at T1
    simp only [World.size_alloc] at T1
    have t0 := (T1).cell 0
    have t1 := (T1).cell 1
    have t2 := (T1).cell 2
    have t3 := (T1).cell 3
    have t4 := (T1).cell 4
    have t5 := (T1).cell 5
    have t6 := (T1).cell 6
    have t7 := (T1).cell 7
    have t8 := (T1).cell 8
    have t9 := (T1).cell 9
    simp only [List.getElem?_toArray, List.getElem?_cons_zero, List.getElem?_cons_succ] at t0 t1 t2 t3 t4 t5 t6 t7 t8 t9
    have f0 := (R1).cell 0
    simp only [List.getElem?_toArray, List.getElem?_cons_zero, List.getElem?_cons_succ] at f0
    have z1 := T1.lt
    have y1 := R1.lt
    clear b1
    go_wp2_with fail
    refine wp_loop_rounds 6 ?_
    rw [rounds_succ]
    go_wp2_with fail
    refine (HD1.out _ (balloc c1 _)).mono ?_
    rw [HQ1.out]
    rintro e w2 ⟨rfl, b2⟩
    have p2 := bnext (balloc (Below.refl _ w1) _) b2
    have T2 := T1.below p2 T1.lt
    have R2 := R1.below p2 R1.lt
    have q2 := (Blk.new w1 198 #[.int .i64 150, .func (.func 129) #[] #[]]).below b2 (by simp)
    have q0 := (q2).cell 0
    have q1 := (q2).cell 1
    simp only [List.getElem?_toArray, List.getElem?_cons_zero, List.getElem?_cons_succ] at q0 q1
    have c2 := bnext c1 p2
    clear T1 R1 c1 z1 y1 b2 p2 q2
    clear t0 t1 t2 t3 t4 t5 t6 t7 t8 t9 f0
    have t0 := (T2).cell 0
    have t1 := (T2).cell 1
    have t2 := (T2).cell 2
    have t3 := (T2).cell 3
    have t4 := (T2).cell 4
    have t5 := (T2).cell 5
    have t6 := (T2).cell 6
    have t7 := (T2).cell 7
    have t8 := (T2).cell 8
    have t9 := (T2).cell 9
    simp only [List.getElem?_toArray, List.getElem?_cons_zero, List.getElem?_cons_succ] at t0 t1 t2 t3 t4 t5 t6 t7 t8 t9
    have f0 := (R2).cell 0
    simp only [List.getElem?_toArray, List.getElem?_cons_zero, List.getElem?_cons_succ] at f0
    have z2 := T2.lt
    have y2 := R2.lt
    clear q0 q1
    go_wp2_with fail
    rw [rounds_succ]
    go_wp2_with fail
    refine (HD2.out _ (balloc c2 _) H4.out).mono ?_
    rw [HQ2.out]
    rintro e w3 ⟨rfl, b3⟩
    have p3 := bnext (balloc (Below.refl _ w2) _) b3
    have T3 := T2.below p3 T2.lt
    have R3 := R2.below p3 R2.lt
    have q3 := (Blk.new w2 198 #[.int .i64 151, .func (.func 130) #[] #[]]).below b3 (by simp)
    have q0 := (q3).cell 0
    have q1 := (q3).cell 1
    simp only [List.getElem?_toArray, List.getElem?_cons_zero, List.getElem?_cons_succ] at q0 q1
    have c3 := bnext c2 p3
    clear T2 R2 c2 z2 y2 b3 p3 q3
    clear t0 t1 t2 t3 t4 t5 t6 t7 t8 t9 f0
    have t0 := (T3).cell 0
    have t1 := (T3).cell 1
    have t2 := (T3).cell 2
    have t3 := (T3).cell 3
    have t4 := (T3).cell 4
    have t5 := (T3).cell 5
    have t6 := (T3).cell 6
    have t7 := (T3).cell 7
    have t8 := (T3).cell 8
    have t9 := (T3).cell 9
    simp only [List.getElem?_toArray, List.getElem?_cons_zero, List.getElem?_cons_succ] at t0 t1 t2 t3 t4 t5 t6 t7 t8 t9
    have f0 := (R3).cell 0
    simp only [List.getElem?_toArray, List.getElem?_cons_zero, List.getElem?_cons_succ] at f0
    have z3 := T3.lt
    have y3 := R3.lt
    clear q0 q1
    go_wp2_with fail
    rw [rounds_succ]
    go_wp2_with fail
    refine (HD3.out _ (balloc c3 _) H4.out).mono ?_
    rw [HQ3.out]
    rintro e w4 ⟨rfl, b4⟩
    have p4 := bnext (balloc (Below.refl _ w3) _) b4
    have T4 := T3.below p4 T3.lt
    have R4 := R3.below p4 R3.lt
    have q4 := (Blk.new w3 198 #[.int .i64 152, .func (.func 131) #[] #[]]).below b4 (by simp)
    have q0 := (q4).cell 0
    have q1 := (q4).cell 1
    simp only [List.getElem?_toArray, List.getElem?_cons_zero, List.getElem?_cons_succ] at q0 q1
    have c4 := bnext c3 p4
    clear T3 R3 c3 z3 y3 b4 p4 q4
    clear t0 t1 t2 t3 t4 t5 t6 t7 t8 t9 f0
    have t0 := (T4).cell 0
    have t1 := (T4).cell 1
    have t2 := (T4).cell 2
    have t3 := (T4).cell 3
    have t4 := (T4).cell 4
    have t5 := (T4).cell 5
    have t6 := (T4).cell 6
    have t7 := (T4).cell 7
    have t8 := (T4).cell 8
    have t9 := (T4).cell 9
    simp only [List.getElem?_toArray, List.getElem?_cons_zero, List.getElem?_cons_succ] at t0 t1 t2 t3 t4 t5 t6 t7 t8 t9
    have f0 := (R4).cell 0
    simp only [List.getElem?_toArray, List.getElem?_cons_zero, List.getElem?_cons_succ] at f0
    have z4 := T4.lt
    have y4 := R4.lt
    clear q0 q1
    go_wp2_with fail
    rw [rounds_succ]
    go_wp2_with fail
    refine (HD4.out _ (balloc c4 _) H4.out).mono ?_
    rw [HQ4.out]
    rintro e w5 ⟨rfl, b5⟩
    have p5 := bnext (balloc (Below.refl _ w4) _) b5
    have T5 := T4.below p5 T4.lt
    have R5 := R4.below p5 R4.lt
    have q5 := (Blk.new w4 198 #[.int .i64 153, .func (.func 132) #[] #[]]).below b5 (by simp)
    have q0 := (q5).cell 0
    have q1 := (q5).cell 1
    simp only [List.getElem?_toArray, List.getElem?_cons_zero, List.getElem?_cons_succ] at q0 q1
    have c5 := bnext c4 p5
    clear T4 R4 c4 z4 y4 b5 p5 q5
    clear t0 t1 t2 t3 t4 t5 t6 t7 t8 t9 f0
    have t0 := (T5).cell 0
    have t1 := (T5).cell 1
    have t2 := (T5).cell 2
    have t3 := (T5).cell 3
    have t4 := (T5).cell 4
    have t5 := (T5).cell 5
    have t6 := (T5).cell 6
    have t7 := (T5).cell 7
    have t8 := (T5).cell 8
    have t9 := (T5).cell 9
    simp only [List.getElem?_toArray, List.getElem?_cons_zero, List.getElem?_cons_succ] at t0 t1 t2 t3 t4 t5 t6 t7 t8 t9
    have f0 := (R5).cell 0
    simp only [List.getElem?_toArray, List.getElem?_cons_zero, List.getElem?_cons_succ] at f0
    have z5 := T5.lt
    have y5 := R5.lt
    clear q0 q1
    go_wp2_with fail
    rw [rounds_succ]
    go_wp2_with fail
    refine (HD5.out _ (balloc c5 _) H4.out).mono ?_
    rw [HQ5.out]
    rintro e w6 ⟨rfl, b6⟩
    have p6 := bnext (balloc (Below.refl _ w5) _) b6
    have T6 := T5.below p6 T5.lt
    have R6 := R5.below p6 R5.lt
    have q6 := (Blk.new w5 198 #[.int .i64 154, .func (.func 134) #[] #[]]).below b6 (by simp)
    have q0 := (q6).cell 0
    have q1 := (q6).cell 1
    simp only [List.getElem?_toArray, List.getElem?_cons_zero, List.getElem?_cons_succ] at q0 q1
    have c6 := bnext c5 p6
    clear T5 R5 c5 z5 y5 b6 p6 q6
    clear t0 t1 t2 t3 t4 t5 t6 t7 t8 t9 f0
    have t0 := (T6).cell 0
    have t1 := (T6).cell 1
    have t2 := (T6).cell 2
    have t3 := (T6).cell 3
    have t4 := (T6).cell 4
    have t5 := (T6).cell 5
    have t6 := (T6).cell 6
    have t7 := (T6).cell 7
    have t8 := (T6).cell 8
    have t9 := (T6).cell 9
    simp only [List.getElem?_toArray, List.getElem?_cons_zero, List.getElem?_cons_succ] at t0 t1 t2 t3 t4 t5 t6 t7 t8 t9
    have f0 := (R6).cell 0
    simp only [List.getElem?_toArray, List.getElem?_cons_zero, List.getElem?_cons_succ] at f0
    have z6 := T6.lt
    have y6 := R6.lt
    go_wp2_with fail
    exact ⟨rfl, rfl, c6⟩
  rw [show decE l = 0 by unfold decE; rw [if_neg (by rw [HN.out]; omega), if_neg (by rw [HN.out]; exact fun hh => hh h2), if_neg (by intro hh; exact hh h3), if_neg (by rw [h4]; simp), if_neg (by intro hh; exact hh h5)]]
  have HQ1 := Lib.hid (show decide (4 ≤ n) = true from decide_eq_true h1)
  have HQ2 := Lib.hid (show decide ((n - 4) % 20 = 0 ∧ n ≤ 504) = true from decide_eq_true h2)
  have HQ3 := Lib.hid (show decide (at8 l 1 = 2) = true from decide_eq_true h3)
  have HQ4 := Lib.hid (show cmdB (at8 l 0) = true from h4)
  have HQ5 := Lib.hid (show decide (at8 l 2 * 256 + at8 l 3 = 0) = true from decide_eq_true h5)
  have H4 := Lib.hid h1
  clear h1 h2 h3 h4 h5
  go_enter Tryz.func85, Tryz.ntmps85
  go_wp2_with fail
  refine (demands_any _).mono ?_
  rintro e w1 ⟨rfl, T1, b1⟩
  have R1 := (Blk.new w 163 #[.slice A n c]).below b1 (by simp)
  have c1 := bnext (balloc (Below.refl _ w) _) b1
  unfold demC at T1
  simp only [World.size_alloc] at T1
  have t0 := (T1).cell 0
  have t1 := (T1).cell 1
  have t2 := (T1).cell 2
  have t3 := (T1).cell 3
  have t4 := (T1).cell 4
  have t5 := (T1).cell 5
  have t6 := (T1).cell 6
  have t7 := (T1).cell 7
  have t8 := (T1).cell 8
  have t9 := (T1).cell 9
  simp only [List.getElem?_toArray, List.getElem?_cons_zero, List.getElem?_cons_succ] at t0 t1 t2 t3 t4 t5 t6 t7 t8 t9
  have f0 := (R1).cell 0
  simp only [List.getElem?_toArray, List.getElem?_cons_zero, List.getElem?_cons_succ] at f0
  have z1 := T1.lt
  have y1 := R1.lt
  clear b1
  go_wp2_with fail
  refine wp_loop_rounds 6 ?_
  rw [rounds_succ]
  go_wp2_with fail
  refine (HD1.out _ (balloc c1 _)).mono ?_
  rw [HQ1.out]
  rintro e w2 ⟨rfl, b2⟩
  have p2 := bnext (balloc (Below.refl _ w1) _) b2
  have T2 := T1.below p2 T1.lt
  have R2 := R1.below p2 R1.lt
  have q2 := (Blk.new w1 198 #[.int .i64 150, .func (.func 129) #[] #[]]).below b2 (by simp)
  have q0 := (q2).cell 0
  have q1 := (q2).cell 1
  simp only [List.getElem?_toArray, List.getElem?_cons_zero, List.getElem?_cons_succ] at q0 q1
  have c2 := bnext c1 p2
  clear T1 R1 c1 z1 y1 b2 p2 q2
  clear t0 t1 t2 t3 t4 t5 t6 t7 t8 t9 f0
  have t0 := (T2).cell 0
  have t1 := (T2).cell 1
  have t2 := (T2).cell 2
  have t3 := (T2).cell 3
  have t4 := (T2).cell 4
  have t5 := (T2).cell 5
  have t6 := (T2).cell 6
  have t7 := (T2).cell 7
  have t8 := (T2).cell 8
  have t9 := (T2).cell 9
  simp only [List.getElem?_toArray, List.getElem?_cons_zero, List.getElem?_cons_succ] at t0 t1 t2 t3 t4 t5 t6 t7 t8 t9
  have f0 := (R2).cell 0
  simp only [List.getElem?_toArray, List.getElem?_cons_zero, List.getElem?_cons_succ] at f0
  have z2 := T2.lt
  have y2 := R2.lt
  clear q0 q1
  go_wp2_with fail
  rw [rounds_succ]
  go_wp2_with fail
  refine (HD2.out _ (balloc c2 _) H4.out).mono ?_
  rw [HQ2.out]
  rintro e w3 ⟨rfl, b3⟩
  have p3 := bnext (balloc (Below.refl _ w2) _) b3
  have T3 := T2.below p3 T2.lt
  have R3 := R2.below p3 R2.lt
  have q3 := (Blk.new w2 198 #[.int .i64 151, .func (.func 130) #[] #[]]).below b3 (by simp)
  have q0 := (q3).cell 0
  have q1 := (q3).cell 1
  simp only [List.getElem?_toArray, List.getElem?_cons_zero, List.getElem?_cons_succ] at q0 q1
  have c3 := bnext c2 p3
  clear T2 R2 c2 z2 y2 b3 p3 q3
  clear t0 t1 t2 t3 t4 t5 t6 t7 t8 t9 f0
  have t0 := (T3).cell 0
  have t1 := (T3).cell 1
  have t2 := (T3).cell 2
  have t3 := (T3).cell 3
  have t4 := (T3).cell 4
  have t5 := (T3).cell 5
  have t6 := (T3).cell 6
  have t7 := (T3).cell 7
  have t8 := (T3).cell 8
  have t9 := (T3).cell 9
  simp only [List.getElem?_toArray, List.getElem?_cons_zero, List.getElem?_cons_succ] at t0 t1 t2 t3 t4 t5 t6 t7 t8 t9
  have f0 := (R3).cell 0
  simp only [List.getElem?_toArray, List.getElem?_cons_zero, List.getElem?_cons_succ] at f0
  have z3 := T3.lt
  have y3 := R3.lt
  clear q0 q1
  go_wp2_with fail
  rw [rounds_succ]
  go_wp2_with fail
  refine (HD3.out _ (balloc c3 _) H4.out).mono ?_
  rw [HQ3.out]
  rintro e w4 ⟨rfl, b4⟩
  have p4 := bnext (balloc (Below.refl _ w3) _) b4
  have T4 := T3.below p4 T3.lt
  have R4 := R3.below p4 R3.lt
  have q4 := (Blk.new w3 198 #[.int .i64 152, .func (.func 131) #[] #[]]).below b4 (by simp)
  have q0 := (q4).cell 0
  have q1 := (q4).cell 1
  simp only [List.getElem?_toArray, List.getElem?_cons_zero, List.getElem?_cons_succ] at q0 q1
  have c4 := bnext c3 p4
  clear T3 R3 c3 z3 y3 b4 p4 q4
  clear t0 t1 t2 t3 t4 t5 t6 t7 t8 t9 f0
  have t0 := (T4).cell 0
  have t1 := (T4).cell 1
  have t2 := (T4).cell 2
  have t3 := (T4).cell 3
  have t4 := (T4).cell 4
  have t5 := (T4).cell 5
  have t6 := (T4).cell 6
  have t7 := (T4).cell 7
  have t8 := (T4).cell 8
  have t9 := (T4).cell 9
  simp only [List.getElem?_toArray, List.getElem?_cons_zero, List.getElem?_cons_succ] at t0 t1 t2 t3 t4 t5 t6 t7 t8 t9
  have f0 := (R4).cell 0
  simp only [List.getElem?_toArray, List.getElem?_cons_zero, List.getElem?_cons_succ] at f0
  have z4 := T4.lt
  have y4 := R4.lt
  clear q0 q1
  go_wp2_with fail
  rw [rounds_succ]
  go_wp2_with fail
  refine (HD4.out _ (balloc c4 _) H4.out).mono ?_
  rw [HQ4.out]
  rintro e w5 ⟨rfl, b5⟩
  have p5 := bnext (balloc (Below.refl _ w4) _) b5
  have T5 := T4.below p5 T4.lt
  have R5 := R4.below p5 R4.lt
  have q5 := (Blk.new w4 198 #[.int .i64 153, .func (.func 132) #[] #[]]).below b5 (by simp)
  have q0 := (q5).cell 0
  have q1 := (q5).cell 1
  simp only [List.getElem?_toArray, List.getElem?_cons_zero, List.getElem?_cons_succ] at q0 q1
  have c5 := bnext c4 p5
  clear T4 R4 c4 z4 y4 b5 p5 q5
  clear t0 t1 t2 t3 t4 t5 t6 t7 t8 t9 f0
  have t0 := (T5).cell 0
  have t1 := (T5).cell 1
  have t2 := (T5).cell 2
  have t3 := (T5).cell 3
  have t4 := (T5).cell 4
  have t5 := (T5).cell 5
  have t6 := (T5).cell 6
  have t7 := (T5).cell 7
  have t8 := (T5).cell 8
  have t9 := (T5).cell 9
  simp only [List.getElem?_toArray, List.getElem?_cons_zero, List.getElem?_cons_succ] at t0 t1 t2 t3 t4 t5 t6 t7 t8 t9
  have f0 := (R5).cell 0
  simp only [List.getElem?_toArray, List.getElem?_cons_zero, List.getElem?_cons_succ] at f0
  have z5 := T5.lt
  have y5 := R5.lt
  clear q0 q1
  go_wp2_with fail
  rw [rounds_succ]
  go_wp2_with fail
  refine (HD5.out _ (balloc c5 _) H4.out).mono ?_
  rw [HQ5.out]
  rintro e w6 ⟨rfl, b6⟩
  have p6 := bnext (balloc (Below.refl _ w5) _) b6
  have T6 := T5.below p6 T5.lt
  have R6 := R5.below p6 R5.lt
  have q6 := (Blk.new w5 198 #[.int .i64 154, .func (.func 134) #[] #[]]).below b6 (by simp)
  have q0 := (q6).cell 0
  have q1 := (q6).cell 1
  simp only [List.getElem?_toArray, List.getElem?_cons_zero, List.getElem?_cons_succ] at q0 q1
  have c6 := bnext c5 p6
  clear T5 R5 c5 z5 y5 b6 p6 q6
  clear t0 t1 t2 t3 t4 t5 t6 t7 t8 t9 f0
  have t0 := (T6).cell 0
  have t1 := (T6).cell 1
  have t2 := (T6).cell 2
  have t3 := (T6).cell 3
  have t4 := (T6).cell 4
  have t5 := (T6).cell 5
  have t6 := (T6).cell 6
  have t7 := (T6).cell 7
  have t8 := (T6).cell 8
  have t9 := (T6).cell 9
  simp only [List.getElem?_toArray, List.getElem?_cons_zero, List.getElem?_cons_succ] at t0 t1 t2 t3 t4 t5 t6 t7 t8 t9
  have f0 := (R6).cell 0
  simp only [List.getElem?_toArray, List.getElem?_cons_zero, List.getElem?_cons_succ] at f0
  have z6 := T6.lt
  have y6 := R6.lt
  clear q0 q1
  go_wp2_with fail
  rw [rounds_succ]
  go_wp2_with fail
  go_end0
  exact ⟨rfl, c6⟩
end Go.Proofs.YtlanfceilajifaaGreatDoor
/- packet: the entries of bytes; entry.Each for a body that writes elsewhere; what Decode defers. -/
namespace Go.Proofs.YtlanfceilajifaaGreatDoor
set_option linter.unusedVariables false
set_option linter.unusedSimpArgs false
open Go.RowKit Go.Shelf
attribute [local go_sem] Oper.semAt_some
set_option maxRecDepth 100000
def erOf (l : List UInt8) (i : Nat) : Er := ⟨fld (l.drop (i * 20)) 0 2, fld (l.drop (i * 20)) 2 2, fld (l.drop (i * 20)) 4 4, fld (l.drop (i * 20)) 8 4, fld (l.drop (i * 20)) 12 4, fld (l.drop (i * 20)) 16 4⟩
def ersOf (l : List UInt8) : List Er := (List.range (l.length / 20)).map (erOf l)
theorem ersOf_len (l : List UInt8) : (ersOf l).length = l.length / 20 := by simp [ersOf]
theorem entC_ers (l : List UInt8) : entC l (l.length / 20) = erC (ersOf l) := by
  unfold entC erC ersOf
  rw [List.flatMap_map]
  rfl
theorem ersOf_fit (l : List UInt8) : ∀ e ∈ ersOf l, fitR e := by
  intro e he
  obtain ⟨i, _, rfl⟩ := List.mem_map.1 he
  exact ⟨fld_lt _ 4 4, fld_lt _ 8 4, fld_lt _ 12 4, fld_lt _ 16 4⟩
theorem ersOf_ok (l : List UInt8) : (ersOf l).all okE = true := by
  rw [List.all_eq_true]
  intro e he
  obtain ⟨i, _, rfl⟩ := List.mem_map.1 he
  have h1 : fld (l.drop (i * 20)) 0 2 < 65536 := fld_lt _ 0 2
  have h2 : fld (l.drop (i * 20)) 2 2 < 65536 := fld_lt _ 2 2
  unfold okE rightF erOf
  exact decide_eq_true (by simp only; omega)
theorem WidthsAt.fr {w w' : World} {p : Nat → Prop} (h : WidthsAt w) (hf : Fr p w w') (hp : p 1) : WidthsAt w' := ⟨hf.cell h.1 hp, hf.cell h.2.1 hp, hf.cell h.2.2 hp⟩
theorem boxed_fr {W W' : World} {B : Nat} {t : TypeId} {v : Value} {p : Nat → Prop} (h : Boxed W B t v) (hf : Fr p W W') (hp : p B) : Boxed W' B t v := hf.blk h hp

set_option maxHeartbeats 2000000 in
theorem eeach2_in (n : Nat) (hn : 1 ≤ n) (lb Ba : Nat) (p : Nat → Prop) (l : List UInt8) (A : Option Addr) (c : Nat) (hlc : l.length ≤ c) (hc : c ≤ 9223372036854775807) (hl : l.length ≤ 1048576)
    (J Jx : List Nat → World → Prop) (W : World)
    (hY : ∀ pre x W1, J pre W1 → pre.length < l.length / 20 → YieldAt Fence.wide (n - 1) Tryz.prog lb (entEs l x) W1 fun e W' =>
      (e = .returned (.bool true) ∧ J (pre ++ [x]) W' ∧ Fr p W1 W') ∨ (e = .returned (.bool false) ∧ Jx (pre ++ [x]) W'))
    (hA : AbidesFrom W.heap.size J) (hw : WidthsAt W) (hpw : p 1) (hBa : Boxed W Ba 25 (.slice A l.length c)) (hpB : p Ba) (hr : RdP W p A (l.map b8)) (h0 : J [] W) :
    CallsIn Fence.wide n Tryz.prog 113 #[.func (.yield lb) #[] #[], .pointer (some ⟨Ba, 0, none⟩)] W fun e W' => (∃ v, e = .returned v) ∧
      ((∃ ys, ys = List.range (l.length / 20) ∧ J ys W') ∨ (∃ pre, (∃ j, j ≤ l.length / 20 ∧ pre = List.range j) ∧ Jx pre W')) := by
  have ca := hBa.cell
  have hNl : l.length / 20 * 20 ≤ l.length := Nat.div_mul_le_self _ _
  refine callsIn_of_wp Tryz.func113 rfl trivial ?_ rfl
  simp only [Tryz.ntmps113, List.size_toArray, List.length_cons, List.length_nil, Nat.reduceAdd, Nat.reduceSub, Array.replicate_succ, Array.replicate_zero, List.push_toArray, List.append_toArray, List.nil_append, List.cons_append]
  refine scope_in ?_
  gi_wp2_with fail
  refine wpIn_label ?_
  gi_wp2
  gi_loopw [9] (fun i wr => ∃ j : Nat, j ≤ l.length / 20 ∧ i = .int .i64 j ∧ J (List.range j) wr ∧ Fr p W wr) (fun i _ => l.length / 20 - (intOf i).toNat)
  case atStart => exact ⟨0, Nat.zero_le _, rfl, h0, Fr.refl⟩
  case round =>
    obtain ⟨j, hj, rfl, hJ, hb⟩ := hrel
    have ca' := (boxed_fr hBa hb hpB).cell
    have hsz : W.heap.size ≤ wr.heap.size := hb.2.2.2.1
    clear ca
    by_cases hlt : j < l.length / 20
    · have hjq : j * 20 + 20 ≤ l.length := by omega
      have hrd := rd_drop (hr.fr (q := fun _ => True) hb (fun _ h _ => h) (fun _ _ _ => trivial)).rd (j * 20) (by omega)
      have hlen : (l.drop (j * 20)).length = l.length - j * 20 := by simp
      have hcall := fun cc hcc hcc2 => eread_ok (l.drop (j * 20)) (A.map (fun x => x.add (j * 20))) cc wr (hw.fr hb hpw) hrd hcc hcc2 (by rw [hlen]; omega)
      rw [hlen] at hcall
      have hy0 := hY (List.range j) j
      have hE : entEs l j = #[.int .i64 j, .agg #[.int .i64 (fld (l.drop (j * 20)) 0 2), .int .i64 (fld (l.drop (j * 20)) 2 2), .int .u32 (fld (l.drop (j * 20)) 4 4), .int .u32 (fld (l.drop (j * 20)) 8 4), .int .u32 (fld (l.drop (j * 20)) 12 4), .int .u32 (fld (l.drop (j * 20)) 16 4)]] := rfl
      rw [hE] at hy0
      unfold readE at hcall
      generalize fld (l.drop (j * 20)) 0 2 = v0 at *
      generalize fld (l.drop (j * 20)) 2 2 = v1 at *
      generalize fld (l.drop (j * 20)) 4 4 = v2 at *
      generalize fld (l.drop (j * 20)) 8 4 = v3 at *
      generalize fld (l.drop (j * 20)) 12 4 = v4 at *
      generalize fld (l.drop (j * 20)) 16 4 = v5 at *
      have CC := Lib.hid hcall
      have HG := Lib.hid hy0
      have HF := Lib.hid hb
      have hnc : ¬ c = j * 20 := by omega
      clear hcall hlen hrd hy0 hE hb
      gi_wp2_with fail
      refine ⟨trivial, ?_⟩
      refine (callsIn_wide.2 (CC.out _ (by omega) (by omega))).mono ?_
      rintro e w2 ⟨rfl, b2⟩
      have b3 := balloc b2 (.cells #[.int .i64 v0, .int .i64 v1, .int .u32 v2, .int .u32 v3, .int .u32 v4, .int .u32 v5] 57)
      obtain ⟨fn, tmps, assign, body, hy, hR⟩ := HG.out _ (hA _ _ _ none hJ (below_none b3) (by simp)) (by simpa using hlt)
      have HF3 := Lib.hid (HF.out.trans (Fr.of_below b3))
      clear HG CC b2 b3
      gi_wp2
      refine hR.mono ?_
      rintro e W3 (⟨rfl, hJ3, hk3⟩ | ⟨rfl, hJx3⟩)
      · gi_wp2
        go_roundw
        case rel => exact ⟨j + 1, by omega, by go_num, by rw [List.range_succ]; exact hJ3, HF3.out.trans hk3⟩
        case measure => simp [intOf]; omega
      · gi_wp2
        rw [Exit.noGoto_normal]
        go_end0
        exact ⟨⟨_, rfl⟩, .inr ⟨_, ⟨j + 1, by omega, (List.range_succ).symm⟩, hJx3⟩⟩
    · obtain rfl : j = l.length / 20 := by omega
      gi_wp2_with fail
      rw [Exit.noGoto_normal]
      go_end0
      exact ⟨⟨_, rfl⟩, .inl ⟨_, rfl, hJ⟩⟩

/-- what Each hands back: a function, its bytes in a box, in blocks that meet a condition -/
def IsEach2 (w : World) (p : Nat → Prop) (l : List UInt8) (lb : Array Value) : Prop :=
  ∃ Ba A c, lb = #[.pointer (some ⟨Ba, 0, none⟩)] ∧ Boxed w Ba 25 (.slice A l.length c) ∧ p Ba ∧ l.length ≤ c ∧ c ≤ maxLen ∧ RdP w p A (l.map b8)
theorem IsEach2.fr {w w' : World} {p q r : Nat → Prop} {l : List UInt8} {lb : Array Value} (h : IsEach2 w p l lb) (hf : Fr r w w') (h1 : ∀ b, p b → b < w.heap.size → r b) (h2 : ∀ b, p b → b < w.heap.size → q b) : IsEach2 w' q l lb := by
  obtain ⟨Ba, A, c, e, k1, k2, k3, k4, k5⟩ := h
  exact ⟨Ba, A, c, e, boxed_fr k1 hf (h1 _ k2 k1.lt), h2 _ k2 k1.lt, k3, k4, k5.fr hf h1 h2⟩
set_option maxHeartbeats 1000000 in
theorem eeach2_any (l : List UInt8) (n : Nat) (hn : l.length = n) (A : Option Addr) (c B : Nat) (w : World) (h : Rd w B A (l.map b8)) (hB : B ≤ w.heap.size) (hl : n ≤ 1048576) :
    Calls Tryz.prog 87 #[.slice A n c] w fun e w' => ∃ lb, e = .returned (.func (.func 113) #[] lb) ∧ IsEach2 w' (fun b => w.heap.size ≤ b) l lb ∧ Below w.heap.size w w' := by
  have hmf : ∀ (fn : Fn) (first cap : Array Value) (w : World), (Instr.makeFunc fn first cap).run Tryz.prog w = .ok (.func fn first cap) w := fun _ _ _ _ => rfl
  have HN := Lib.hid hn
  clear hn
  go_enter Tryz.func87, Tryz.ntmps87
  go_wp2_with (go_at_call 112; refine (clone_any l _ HN.out _ _ B _ h hl hB).mono ?_; rintro e w1 ⟨A1, c1, rfl, hc1, hm1, hr1, hb1, hav⟩)
  go_ret
  refine ⟨_, rfl, ⟨_, A1, c1, rfl, ?_, hb1.size, hc1, hm1, ?_⟩, balloc hb1 _⟩
  · exact Boxed.new w1 _ _
  · exact (hr1.alloc (Nat.le_refl _) _).to (fun a e _ => hav a e)
theorem eeach2_stops (n : Nat) (hn : 1 ≤ n) (p : Nat → Prop) (l : List UInt8) (lb : Array Value) (w : World) (hl : l.length ≤ 1048576) (h0 : IsEach2 w p l lb) (hw : WidthsAt w) (hpw : p 1) :
    SeqStopsK Fence.wide n Tryz.prog 113 lb (entEs l) (Fr p) (fun ys => ys = List.range (l.length / 20)) (fun pre => ∃ j, j ≤ l.length / 20 ∧ pre = List.range j) (l.length / 20) w := fun lp J Jx W hW hA _ hY hJ0 => by
  obtain ⟨Ba, A, c, rfl, k1, k2, k3, k4, k5⟩ := h0.fr (q := p) (Fr.of_below (p := fun _ => True) hW) (fun _ _ _ => trivial) (fun _ h _ => h)
  exact eeach2_in n hn lp Ba p l A c k3 (by unfold maxLen at k4; omega) hl J Jx W hY hA (hw.below hW) hpw k1 k2 k5 hJ0

set_option maxHeartbeats 1000000 in
theorem pk_idle (b b' : Nat) (w : World) :
    CallsD Tryz.prog 84 #[.pointer (some ⟨b, 0, none⟩), .pointer (some ⟨b', 0, none⟩)] .returning w fun e u' w' => e = .returned (.tuple #[]) ∧ u' = .returning ∧ w' = w := by
  have hta : ∀ w, (Instr.typeAssert .nilIface 20 159 true).run Tryz.prog w = .ok (.tuple #[.int .i64 0, .bool false]) w := fun _ => by kernel_rfl
  refine callsD_of_wpS Tryz.func84 rfl fun c₀ cs hu => ?_
  simp only [Tryz.ntmps84, List.size_toArray, List.length_cons, List.length_nil, Nat.reduceAdd, Nat.reduceSub, Array.replicate_succ, Array.replicate_zero, List.push_toArray, List.append_toArray, List.nil_append, List.cons_append]
  apply wpS_seq
  apply wpS_region
  simp [wpOpsS, go_sem, recoverD, hu, Exit.thenS, hta]
  refine wpS_of_wp ?_
  go_wp2
  cases c₀
  simp_all [bodyPostS, results, Tryz.results84]

set_option maxHeartbeats 1000000 in
theorem pk_pan (b b' : Nat) (k : Int) (o0 o1 : Value) (older : List PanicEntry) (w : World) (hb : Blk w b 35 #[o0, o1]) (hb' : Blk w b' 29 #[.int .i64 0]) (hne : ¬ b = b') :
    CallsD Tryz.prog 84 #[.pointer (some ⟨b, 0, none⟩), .pointer (some ⟨b', 0, none⟩)] (.panicking ({ v := .iface 159 (.int .i64 k), recovered := false } :: older)) w fun e u' w' => e = .returned (.tuple #[]) ∧ u' = .panicking ({ v := .iface 159 (.int .i64 k), recovered := true } :: older) ∧
      (Blk w' b 35 #[.int .i64 0, .slice none 0 0] ∧ Blk w' b' 29 #[.int .i64 k] ∧ ∀ n, n ≤ b → n ≤ b' → Below n w w') := by
  have hta : ∀ w, (Instr.typeAssert (.iface 159 (.int .i64 k)) 20 159 true).run Tryz.prog w = .ok (.tuple #[.int .i64 k, .bool true]) w := fun _ => by kernel_rfl
  have d0 := (hb).cell 0
  have d1 := (hb).cell 1
  simp only [List.getElem?_toArray, List.getElem?_cons_zero, List.getElem?_cons_succ] at d0 d1
  have g0 := (hb').cell 0
  simp only [List.getElem?_toArray, List.getElem?_cons_zero, List.getElem?_cons_succ] at g0
  have f0 := hb.frozen 0
  have f1 := hb.frozen 1
  have f6 := hb'.frozen 0
  have hne' : ¬ b' = b := fun e => hne e.symm
  have HB := Lib.hid hb
  have HB' := Lib.hid hb'
  clear hb hb'
  refine callsD_of_wpS Tryz.func84 rfl fun c₀ cs hu => ?_
  simp only [Tryz.ntmps84, List.size_toArray, List.length_cons, List.length_nil, Nat.reduceAdd, Nat.reduceSub, Array.replicate_succ, Array.replicate_zero, List.push_toArray, List.append_toArray, List.nil_append, List.cons_append]
  apply wpS_seq
  apply wpS_region
  simp [wpOpsS, go_sem, recoverD, hu, Exit.thenS, hta]
  refine wpS_of_wp ?_
  go_wp2
  have h1 : Blk (((w.setCell ⟨b, 0, none⟩ (.int .i64 0)).setCell ⟨b, 1, none⟩ (.slice none 0 0)).setCell ⟨b', 0, none⟩ (.int .i64 k)) b 35 #[.int .i64 0, .slice none 0 0] := by
    have := ((HB.out.set 0 (.int .i64 0)).set 1 (.slice none 0 0)).far (p := ⟨b', 0, none⟩) hne (.int .i64 k)
    simpa using this
  have h2 : Blk (((w.setCell ⟨b, 0, none⟩ (.int .i64 0)).setCell ⟨b, 1, none⟩ (.slice none 0 0)).setCell ⟨b', 0, none⟩ (.int .i64 k)) b' 29 #[.int .i64 k] := by
    have := ((HB'.out.far (p := ⟨b, 0, none⟩) hne' (.int .i64 0)).far (p := ⟨b, 1, none⟩) hne' (.slice none 0 0)).set 0 (.int .i64 k)
    simpa using this
  have h3 : ∀ n, n ≤ b → n ≤ b' → Below n w (((w.setCell ⟨b, 0, none⟩ (.int .i64 0)).setCell ⟨b, 1, none⟩ (.slice none 0 0)).setCell ⟨b', 0, none⟩ (.int .i64 k)) := fun n h h' => (((Below.refl n w).setCell (p := ⟨b, 0, none⟩) h _).setCell (p := ⟨b, 1, none⟩) h _).setCell (p := ⟨b', 0, none⟩) h' _
  generalize ((w.setCell ⟨b, 0, none⟩ (.int .i64 0)).setCell ⟨b, 1, none⟩ (.slice none 0 0)).setCell ⟨b', 0, none⟩ (.int .i64 k) = wz at *
  cases c₀
  simp only [bodyPostS]
  exact ⟨trivial, _, rfl, _, results_none rfl _ _ _, rfl, rfl, h1, h2, h3⟩
end Go.Proofs.YtlanfceilajifaaGreatDoor
/- packet: Decode, Check. -/
namespace Go.Proofs.YtlanfceilajifaaGreatDoor
set_option linter.unusedVariables false
set_option linter.unusedSimpArgs false
open Go.RowKit Go.Shelf
attribute [local go_sem] Oper.semAt_some
set_option maxRecDepth 100000
def desL (l : List UInt8) : List Er := if decE l = 0 then ersOf (l.drop 4) else []
def dcmd (l : List UInt8) : Int := if decE l = 0 then at8 l 0 else 0
/-- what Decode hands back -/
def DecP (l : List UInt8) (w : World) (e : Ending) (w' : World) : Prop :=
  ∃ A c, e = .returned (.tuple #[.agg #[.int .i64 (dcmd l), .slice A (desL l).length c], .int .i64 (decE l)]) ∧ (desL l).length ≤ c ∧ c ≤ 9223372036854775807 ∧ Rd w' w'.heap.size A (erC (desL l)) ∧ Below w.heap.size w w' ∧ (∀ a, A = some a → w.heap.size ≤ a.block)
theorem decE_zero {l : List UInt8} (h : decE l = 0) : 4 ≤ l.length ∧ (l.length - 4) % 20 = 0 ∧ l.length ≤ 504 ∧ at8 l 1 = 2 ∧ cmdB (at8 l 0) = true ∧ at8 l 2 = 0 ∧ at8 l 3 = 0 := by
  unfold decE at h
  split at h
  · omega
  split at h
  · omega
  split at h
  · omega
  split at h
  · omega
  split at h
  · omega
  rename_i h1 h2 h3 h4 h5
  have h2' := Classical.not_not.1 h2
  refine ⟨by omega, h2'.1, h2'.2, by omega, by simpa using h4, by omega, by omega⟩

set_option maxHeartbeats 1000000 in
theorem decode_bad (l : List UInt8) (n : Nat) (hn : l.length = n) (A : Option Addr) (c B : Nat) (w : World) (hw : WidthsAt w) (h : Rd w B A (l.map b8)) (hlc : n ≤ c) (hc : c ≤ 9223372036854775807) (hB : B ≤ w.heap.size) (hE : decE l ≠ 0) :
    Calls Tryz.prog 43 #[.slice A n c] w (DecP l w) := by
  have hd : desL l = [] := by unfold desL; rw [if_neg hE]
  have hdc : dcmd l = 0 := by unfold dcmd; rw [if_neg hE]
  have hmf : ∀ (fn : Fn) (first cap : Array Value) (w : World), (Instr.makeFunc fn first cap).run Tryz.prog w = .ok (.func fn first cap) w := fun _ _ _ _ => rfl
  have B0 : Below w.heap.size w ((w.alloc (.cells #[.int .i64 0, .slice none 0 0] 35)).alloc (.cells #[.int .i64 0] 29)) := balloc (balloc (Below.refl _ _) _) _
  have x0 := (Blk.new w 35 #[.int .i64 0, .slice none 0 0]).alloc (.cells #[.int .i64 0] 29)
  have x1 := Blk.new (w.alloc (.cells #[.int .i64 0, .slice none 0 0] 35)) 29 #[.int .i64 0]
  rw [World.size_alloc] at x1
  have B1 := balloc B0 (.cells #[.slice A n c] 163)
  have HM := Lib.hid (must_any l n hn A c B _ (hw.below B1) (h.below (B1.mono hB)) hlc hc (Nat.le_trans hB B1.size))
  have X := Lib.hid (And.intro (x0.alloc (.cells #[.slice A n c] 163)) (And.intro (x1.alloc (.cells #[.slice A n c] 163)) B1))
  unfold mustK at HM
  rw [if_neg hE] at HM
  have HD := Lib.hid (And.intro hd hdc)
  clear hn hw h x0 x1 B0 B1 hd hdc
  obtain ⟨k, hk⟩ : ∃ k, k = decE l := ⟨_, rfl⟩
  rw [← hk] at HM hE
  have HK := Lib.hid hk
  clear hk
  go_enter_defers Tryz.func43, Tryz.ntmps43
  go_wp2_with fail
  refine HM.out.mono ?_
  rintro e w2 ⟨rfl, b2⟩
  go_wp2_with fail
  have y0 := X.out.1.below b2 X.out.1.lt
  have y1 := X.out.2.1.below b2 X.out.2.1.lt
  have hc2 := bnext X.out.2.2 b2
  refine leaves_cons (f := 84) (args := #[.pointer (some ⟨w.heap.size, 0, none⟩), .pointer (some ⟨w.heap.size + 1, 0, none⟩)]) (by simp) (by simp [go_sem]) ?_
  with_reducible refine (pk_pan w.heap.size (w.heap.size + 1) k (.int .i64 0) (.slice none 0 0) [] _ y0 y1 (by omega)).mono ?_
  rintro e u' wz ⟨rfl, rfl, z1, z2, z3⟩
  have d0 := (z1).cell 0
  have d1 := (z1).cell 1
  simp only [List.getElem?_toArray, List.getElem?_cons_zero, List.getElem?_cons_succ] at d0 d1
  have h0 := (z2).cell 0
  simp only [List.getElem?_toArray, List.getElem?_cons_zero, List.getElem?_cons_succ] at h0
  have bz := hc2.trans (z3 w.heap.size (Nat.le_refl _) (by omega))
  simp [Leaves, settle, results, Tryz.results43, go_sem, d0, d1, h0]
  refine ⟨none, 0, ?_, by rw [HD.out.1]; simp, by omega, by rw [HD.out.1]; exact Rd.nil, bz, by simp⟩
  rw [HD.out.1, HD.out.2, ← HK.out]
  rfl

/-- a row and the block of the datagram that names it -/
def DR (gd : Nat) (cm : Int) (l : List UInt8) (W1 : World) (pre : List Nat) (W : World) : Prop :=
  ∃ v, Blk W gd 35 #[.int .i64 cm, v] ∧ W.ownsRow W1.heap.size 57 6 v pre.length (erC (pre.map (erOf l))) ∧ Fr (fun k => k < W1.heap.size ∧ k ≠ gd) W1 W
theorem own_grown {w w' : World} {base : Nat} {e : TypeId} {size n : Nat} {v : Value} {xs : List Value} {row : Option Nat} (h : w.ownsRow base e size v n xs) (hg : w.grownBy w' row) (hr : ∀ r, row = some r → ∃ o : Obj, w.heap[r]? = some o ∧ o.isCells = false) : w'.ownsRow base e size v n xs :=
  own_keep h (Nat.le_refl _) (fun k hk hl => hg.block k hl (fun e' => by
    obtain ⟨o, ho, hc⟩ := hr k e'.symm
    rcases h.2 with ⟨rfl, _⟩ | ⟨g, cap, cur, rfl, _, hh, _⟩
    · simp [Value.ownBlock] at hk
    · simp [Value.ownBlock] at hk
      subst hk
      rw [hh] at ho
      cases ho
      cases hc))
theorem DR.own {gd : Nat} {cm : Int} {l : List UInt8} {W1 : World} {B : Nat} (h2 : W1.heap.size ≤ B) : OwnFrom B (DR gd cm l W1) := fun s X Y row hs hg hr => by
  obtain ⟨v, h3, h4, h5⟩ := hs
  refine ⟨v, ?_, own_grown h4 hg (fun r e => (hr r e).2), h5.trans (Fr.grown hg (fun b hb e => by have := (hr b e).1; omega))⟩
  exact (hg.block gd h3.lt (fun e => by obtain ⟨o, ho, hc⟩ := (hr gd e.symm).2; rw [show X.heap[gd]? = _ from h3] at ho; cases ho; cases hc)).trans h3
theorem own_form5 {w : World} {base e size n : Nat} {v : Value} {xs : List Value} (h : w.ownsRow base e size v n xs) (hn : 1 ≤ n) : ∃ g cap, v = .slice (some ⟨g, 0, none⟩) n cap ∧ base ≤ g := by
  rcases h.2 with ⟨_, h0⟩ | ⟨g, cap, cur, rfl, hg, _⟩
  · omega
  · exact ⟨g, cap, rfl, hg⟩
theorem erC_snoc (l : List UInt8) (pre : List Nat) (x : Nat) : erC ((pre ++ [x]).map (erOf l)) = erC (pre.map (erOf l)) ++ erL (erOf l x) := by
  rw [List.map_append, erC_app]
  simp [erC]

set_option maxHeartbeats 8000000 in
theorem decode_ok (l : List UInt8) (n : Nat) (hn : l.length = n) (A : Option Addr) (c B : Nat) (w : World) (hw : WidthsAt w) (h : Rd w B A (l.map b8)) (hlc : n ≤ c) (hc : c ≤ 9223372036854775807) (hB : B ≤ w.heap.size) (hE : decE l = 0) :
    Calls Tryz.prog 43 #[.slice A n c] w (DecP l w) := by
  obtain ⟨i0, hi0, hz0, hz1, hz2⟩ := info_parts ent_info
  obtain ⟨h4, h20, h504, _⟩ := decE_zero hE
  rw [hn] at h4 h20 h504
  have hd : desL l = ersOf (l.drop 4) := by unfold desL; rw [if_pos hE]
  have hdc : dcmd l = at8 l 0 := by unfold dcmd; rw [if_pos hE]
  have hmf : ∀ (fn : Fn) (first cap : Array Value) (w : World), (Instr.makeFunc fn first cap).run Tryz.prog w = .ok (.func fn first cap) w := fun _ _ _ _ => rfl
  have B0 : Below w.heap.size w ((w.alloc (.cells #[.int .i64 0, .slice none 0 0] 35)).alloc (.cells #[.int .i64 0] 29)) := balloc (balloc (Below.refl _ _) _) _
  have x0 := (Blk.new w 35 #[.int .i64 0, .slice none 0 0]).alloc (.cells #[.int .i64 0] 29)
  have x1 := Blk.new (w.alloc (.cells #[.int .i64 0, .slice none 0 0] 35)) 29 #[.int .i64 0]
  rw [World.size_alloc] at x1
  have x2 := Blk.new ((w.alloc (.cells #[.int .i64 0, .slice none 0 0] 35)).alloc (.cells #[.int .i64 0] 29)) 163 #[.slice A n c]
  rw [World.size_alloc, World.size_alloc] at x2
  have B1 := balloc B0 (.cells #[.slice A n c] 163)
  have HM := Lib.hid (must_any l n hn A c B _ (hw.below B1) (h.below (B1.mono hB)) hlc hc (Nat.le_trans hB B1.size))
  have X := Lib.hid (And.intro (x0.alloc (.cells #[.slice A n c] 163)) (And.intro (x1.alloc (.cells #[.slice A n c] 163)) (And.intro x2 B1)))
  unfold mustK at HM
  rw [if_pos hE] at HM
  have HD := Lib.hid (And.intro hd (And.intro hdc hE))
  have HN := Lib.hid hn
  have HW := Lib.hid hw
  have HR := Lib.hid h
  have hlt8 := at8_lt l 0
  have HNB := Lib.hid (fun W (hW : Below w.heap.size w W) => number_any l n HN.out A c B W (HW.out.below hW) (HR.out.below (hW.mono hB)) hlc hc 0 1 (at8 l 0) (rdF_one (l := l) (i := 0) (by omega)) (by omega))
  have HBD := Lib.hid (fun W (hW : Below w.heap.size w W) => body_any l n HN.out A c B W (HR.out.below (hW.mono hB)) h4 hlc hc)
  clear hn hw h x0 x1 x2 B0 B1 hd hdc hE
  have hl4 : (l.drop 4).length = n - 4 := by rw [List.length_drop, HN.out]
  obtain ⟨lq, hlq⟩ : ∃ lq, lq = l.drop 4 := ⟨_, rfl⟩
  rw [← hlq] at HBD HD hl4
  have HL4 := Lib.hid hl4
  clear hlq hl4
  refine calls_of_lvm Tryz.func43 rfl ?_
  refine (wpIn_wide (n := 6)).1 ?_
  simp only [Tryz.ntmps43, List.size_toArray, List.length_cons, List.length_nil, Nat.reduceAdd, Nat.reduceSub, Array.replicate_succ, Array.replicate_zero, List.push_toArray, List.append_toArray, List.nil_append, List.cons_append]
  gi_wp2_with fail
  refine ⟨trivial, ?_⟩
  refine (callsIn_wide.2 HM.out).mono ?_
  rintro e w2 ⟨rfl, b2⟩
  have y0 := X.out.1.below b2 X.out.1.lt
  have y1 := X.out.2.1.below b2 X.out.2.1.lt
  have y2 := X.out.2.2.1.below b2 X.out.2.2.1.lt
  have hc2 := bnext X.out.2.2.2 b2
  have d0 := (y0).cell 0
  have d1 := (y0).cell 1
  simp only [List.getElem?_toArray, List.getElem?_cons_zero, List.getElem?_cons_succ] at d0 d1
  have r0 := (y2).cell 0
  simp only [List.getElem?_toArray, List.getElem?_cons_zero, List.getElem?_cons_succ] at r0
  have f0 := y0.frozen 0
  have z0 := y0.set 0 (.int .i64 (at8 l 0))
  have z1 := y1.far (p := ⟨w.heap.size, 0, none⟩) (by show w.heap.size + 1 ≠ w.heap.size; omega) (.int .i64 (at8 l 0))
  have z2 := y2.far (p := ⟨w.heap.size, 0, none⟩) (by show w.heap.size + 1 + 1 ≠ w.heap.size; omega) (.int .i64 (at8 l 0))
  have hc3 := hc2.setCell (p := ⟨w.heap.size, 0, none⟩) (Nat.le_refl _) (.int .i64 (at8 l 0))
  simp only [List.setIfInBounds_toArray, List.set_cons_zero] at z0
  have HC2 := Lib.hid hc2
  have Z := Lib.hid (And.intro z0 (And.intro z1 (And.intro z2 hc3)))
  clear b2 y0 y1 y2 z0 z1 z2 hc2 hc3 X HM
  gi_wp2_with (first | (refine ⟨trivial, ?_⟩; gi_at_call 86; refine (callsIn_wide.2 (HNB.out _ HC2.out)).mono ?_; rintro e w' ⟨rfl, rfl⟩))
  refine ⟨trivial, ?_⟩
  refine (callsIn_wide.2 (HBD.out _ Z.out.2.2.2)).mono ?_
  rintro e w' ⟨⟨A', rfl, hr4⟩, rfl⟩
  have HEA := Lib.hid (eeach2_any lq (n - 4) HL4.out A' (n - 4) B _ hr4 (Nat.le_trans hB Z.out.2.2.2.size) (by omega))
  clear hr4 HBD
  gi_wp2_with fail
  refine ⟨trivial, ?_⟩
  refine (callsIn_wide.2 HEA.out).mono ?_
  rintro e w3 ⟨lb, rfl, hA, b3⟩
  have zl0 := Z.out.1.lt
  have zl1 := Z.out.2.1.lt
  have u0 := Z.out.1.below b3 zl0
  have u1 := Z.out.2.1.below b3 zl1
  have hc3 := bnext Z.out.2.2.2 b3
  have hsz3 := b3.size
  have hwg : 1 < w.heap.size := cell_lt HW.out.1
  have HA := Lib.hid (hA.fr (q := fun k => k < w3.heap.size ∧ k ≠ w.heap.size) (Fr.refl (p := fun _ => True)) (fun _ _ _ => trivial) (fun b hb hl => ⟨hl, by omega⟩))
  have U := Lib.hid (And.intro u0 (And.intro u1 hc3))
  have hlt1 : w.heap.size + 1 < w3.heap.size := by omega
  have hle48 : lq.length ≤ 1048576 := by have := HL4.out; omega
  clear hA b3 u0 u1 hc3 HEA Z d0 d1 r0 f0
  gi_wp2_with fail
  refine wpIn_rangeFunc_ownH rfl (by omega) (gf := 113) (lb := lb) rfl trivial (enters_of Tryz.func113 (by kernel_rfl) rfl)
    (eeach2_stops 5 (by omega) (fun k => k < w3.heap.size ∧ k ≠ w.heap.size) lq lb w3 hle48 HA.out (HW.out.below U.out.2.2) ⟨by omega, by omega⟩) (fun h1 h2 => h1.trans h2) (fun W l' o o' hl _ _ _ => Fr.grown (grownBy_putObj' W l' o') (fun b hb e => by cases e; omega)) (Below.refl _ _) (fun _ => rfl)
    (DR w.heap.size (at8 l 0) lq w3) (fun _ _ _ => False) (DR.own (Nat.le_refl _)) (fun _ _ _ _ _ hs _ _ => hs) ⟨.slice none 0 0, U.out.1, World.ownsRow_nil _ _ _ _, Fr.refl⟩
    (AxB w.heap.size 57 (entA lq) ?a10) AxB_own ?assign ?body ?done ?stop
  case assign =>
    rintro lp pre x W K hI hK
    have hlW : w3.heap.size ≤ W.heap.size := by obtain ⟨_, _, _, hf⟩ := hI; exact hf.2.2.2.1
    simp only [entEs, entE_eq]
    gi_wp2
    obtain ⟨Bx, hBx⟩ : ∃ Bx, W.heap.size = Bx := ⟨_, rfl⟩
    have bX := Blk.new W 57 (entA lq x)
    rw [hBx] at bX ⊢
    have hK' := hK (?a10 x Bx) _ ((KeepsOthers.alloc _ _).from _) (Fr.alloc _) ((DR.own (Nat.le_refl _)).alloc _ hI) ⟨Bx, by omega, bX, rfl⟩
    exact hK'
  case body =>
    rintro lp pre x a' W hlp _ ⟨v, hd, ho, hf⟩ ⟨Bx, hBx, bX, rfl⟩ hlt
    try dsimp only
    have hpl : pre.length ≤ 25 := by have := HL4.out; omega
    have hsn := erC_snoc lq pre x
    have hEr : erL (erOf lq x) = (entA lq x).toList := rfl
    rw [hEr] at hsn
    unfold entA at bX hsn
    simp only at hsn
    generalize fld (lq.drop (x * 20)) 0 2 = v0 at *
    generalize fld (lq.drop (x * 20)) 2 2 = v1 at *
    generalize fld (lq.drop (x * 20)) 4 4 = v2 at *
    generalize fld (lq.drop (x * 20)) 8 4 = v3 at *
    generalize fld (lq.drop (x * 20)) 12 4 = v4 at *
    generalize fld (lq.drop (x * 20)) 16 4 = v5 at *
    have m0 := (bX).cell 0
    have m1 := (bX).cell 1
    have m2 := (bX).cell 2
    have m3 := (bX).cell 3
    have m4 := (bX).cell 4
    have m5 := (bX).cell 5
    simp only [List.getElem?_toArray, List.getElem?_cons_zero, List.getElem?_cons_succ] at m0 m1 m2 m3 m4 m5
    have k1 := hd.cell 1
    simp only [List.getElem?_toArray, List.getElem?_cons_zero, List.getElem?_cons_succ] at k1
    have hgl := hd.lt
    have HO := Lib.hid (ho.alloc (.cells #[.int .i64 v0, .int .i64 v1, .int .u32 v2, .int .u32 v3, .int .u32 v4, .int .u32 v5] 57))
    have HD2 := Lib.hid (hd.alloc (.cells #[.int .i64 v0, .int .i64 v1, .int .u32 v2, .int .u32 v3, .int .u32 v4, .int .u32 v5] 57))
    have HBS := Lib.hid (own_base' ho)
    have HF := Lib.hid hf
    have HSN := Lib.hid hsn
    have hlW : w3.heap.size ≤ W.heap.size := hf.2.2.2.1
    have hnew : ∀ j u, ([.int .i64 v0, .int .i64 v1, .int .u32 v2, .int .u32 v3, .int .u32 v4, .int .u32 v5] : List Value)[j]? = some u → (W.alloc (.cells #[.int .i64 v0, .int .i64 v1, .int .u32 v2, .int .u32 v3, .int .u32 v4, .int .u32 v5] 57)).cell? ((⟨W.heap.size, 0, none⟩ : Addr).add j) = some u := fun j u hu => by
      rw [add_plain]
      simp [hu]
    have HNW := Lib.hid hnew
    clear hd ho hf hsn hEr hnew
    gi_wp2_with (gi_at_builtin
                 go_must (refine wpListIn_append_own_at _ rfl _ _ 33 rfl w3.heap.size 57 i0 _ 6 32 Tryz.underlying33 hi0 hz0 hz1 hz2 rfl (by decide) v pre.length _ rfl HO.out ⟨W.heap.size, 0, none⟩ 1 1 [.int .i64 v0, .int .i64 v1, .int .u32 v2, .int .u32 v3, .int .u32 v4, .int .u32 v5] rfl rfl HNW.out (by simp [Value.oneCell']) (by simp only [maxLen]; omega) (by omega) (by simp; omega) ?_)
                 intro vn w5 hown5 hgr5 _ _
                 obtain ⟨gn, capn, hvn, hgn⟩ := own_form5 hown5 (by omega)
                 subst hvn
                 have hb5 := hgr5.block w.heap.size HD2.out.lt (fun e => by have := HBS.out _ e.symm; omega)
                 have k5 : Blk w5 w.heap.size 35 #[.int .i64 (at8 l 0), v] := hb5.trans HD2.out
                 have d5 := k5.cell 1
                 have f5 := k5.frozen 1
                 simp only [List.getElem?_toArray, List.getElem?_cons_zero, List.getElem?_cons_succ] at d5)
    have hgd := own_base' hown5
    have h5 := k5.set 1 (.slice (some ⟨gn, 0, none⟩) (pre.length + 1) capn)
    simp only [List.setIfInBounds_toArray, List.set_cons_zero, List.set_cons_succ] at h5
    have hv5 : (Value.slice (some ⟨gn, 0, none⟩) (pre.length + 1) capn).ownBlock = some w.heap.size → False := fun e => by have := hgd _ e; omega
    have ho5 : (w5.setCell ⟨w.heap.size, 1, none⟩ (.slice (some ⟨gn, 0, none⟩) (pre.length + 1) capn)).ownsRow w3.heap.size 57 6 (.slice (some ⟨gn, 0, none⟩) (pre.length + 1) capn) (pre.length + 1) (erC ((pre ++ [x]).map (erOf lq))) := by
      rw [HSN.out]
      exact own_keep hown5 (Nat.le_refl _) (fun k hk hl => Below.heap_setCell w5 ⟨w.heap.size, 1, none⟩ _ k (by show k ≠ w.heap.size; have := hgd k hk; omega))
    have g1 : Fr (fun k => k < w3.heap.size ∧ k ≠ w.heap.size) W (w5.setCell ⟨w.heap.size, 1, none⟩ (.slice (some ⟨gn, 0, none⟩) (pre.length + 1) capn)) :=
      ((Fr.alloc _).trans (Fr.grown hgr5 (fun b hb e => by have := HBS.out _ e; omega))).trans (Fr.set (a := ⟨w.heap.size, 1, none⟩) (fun b hb => hb.2) _)
    have hcl : ∀ r, v.ownBlock = some r → ∃ c t m, (W.alloc (.cells #[.int .i64 v0, .int .i64 v1, .int .u32 v2, .int .u32 v3, .int .u32 v4, .int .u32 v5] 57)).heap[r]? = some (.cells c t m) := fun r hr => by
      rcases HO.out.2 with ⟨rfl, _⟩ | ⟨g, cap, cur, rfl, _, hh, _⟩
      · simp [Value.ownBlock] at hr
      · simp [Value.ownBlock] at hr
        subst hr
        exact ⟨_, _, _, hh⟩
    have g2 : KeepsFrom w3.heap.size W (w5.setCell ⟨w.heap.size, 1, none⟩ (.slice (some ⟨gn, 0, none⟩) (pre.length + 1) capn)) :=
      (((KeepsOthers.alloc _ _).from _).trans ⟨hgr5.size, fun k o _ hk hoo => (hgr5.block k (Array.getElem?_eq_some_iff.1 hk).1 (fun e => by
        obtain ⟨c', t', m', hh⟩ := hcl k e.symm
        rw [hh] at hk
        cases hk
        cases hoo)).trans hk⟩).trans ((KeepsOthers.setCell _ _ _).from _)
    exact ⟨g2, g1, (.slice (some ⟨gn, 0, none⟩) (pre.length + 1) capn), h5, by rw [len_snoc]; exact ho5, HF.out.trans g1⟩
  case stop =>
    rintro D0 cc pre Wm hD0 hpre h hK0
    exact h.elim
  case done =>
    rintro D0 ys Wm hD0 rfl ⟨v, hd, ho, hf⟩ hK0
    obtain ⟨A1, c1, rfl, h1, h2, h3, h4'⟩ := own_row ho
    have q1 := boxed_fr (p := fun k => k < w3.heap.size ∧ k ≠ w.heap.size) U.out.2.1 hf ⟨by omega, by omega⟩
    have d0 := (hd).cell 0
    have d1 := (hd).cell 1
    simp only [List.getElem?_toArray, List.getElem?_cons_zero, List.getElem?_cons_succ] at d0 d1
    have g0 := hd.frozen 0
    have g1 := hd.frozen 1
    have e0 := Blk.cell q1 0
    have e1 := Blk.frozen q1 0
    simp only [List.getElem?_toArray, List.getElem?_cons_zero] at e0
    have hHD := HD.out
    have bm : Below w.heap.size w Wm := U.out.2.2.trans (hf.below (B := w.heap.size) (by omega) (fun b hb => ⟨by omega, by omega⟩))
    have HO := Lib.hid ho
    have HDD := Lib.hid hd
    have HQ1 := Lib.hid q1
    have HK0 := Lib.hid hK0
    have hnl : (List.range (lq.length / 20)).length = (desL l).length := by rw [HD.out.1, ersOf_len, List.length_range]
    have hxs : erC ((List.range (lq.length / 20)).map (erOf lq)) = erC (desL l) := by rw [HD.out.1]; rfl
    have HNL := Lib.hid hnl
    have HXS := Lib.hid hxs
    clear ho hd q1 hf hHD h3 hnl hxs
    generalize (List.range (lq.length / 20)).length = nn at *
    gi_wp2_with fail
    have zd := ((HDD.out.set 0 (.int .i64 (at8 l 0))).set 1 (.slice A1 nn c1)).far (p := ⟨w.heap.size + 1, 0, none⟩) (by show w.heap.size ≠ w.heap.size + 1; omega) (.int .i64 0)
    have ze := ((Blk.far (p := ⟨w.heap.size, 0, none⟩) HQ1.out (by show w.heap.size + 1 ≠ w.heap.size; omega) (.int .i64 (at8 l 0))).far (p := ⟨w.heap.size, 1, none⟩) (by show w.heap.size + 1 ≠ w.heap.size; omega) (.slice A1 nn c1)).set 0 (.int .i64 0)
    simp only [List.setIfInBounds_toArray, List.set_cons_zero, List.set_cons_succ] at zd ze
    have K0 := (KeepsOthers.setCell _ ⟨w.heap.size + 1, 0, none⟩ (.int .i64 0)).same D0 _ ((KeepsOthers.setCell _ ⟨w.heap.size, 1, none⟩ (.slice A1 nn c1)).same D0 _ ((KeepsOthers.setCell Wm ⟨w.heap.size, 0, none⟩ (.int .i64 (at8 l 0))).same D0 _ HK0.out rfl) rfl) rfl
    have bz : Below w.heap.size w (((Wm.setCell ⟨w.heap.size, 0, none⟩ (.int .i64 (at8 l 0))).setCell ⟨w.heap.size, 1, none⟩ (.slice A1 nn c1)).setCell ⟨w.heap.size + 1, 0, none⟩ (.int .i64 0)) := ((bm.setCell (p := ⟨w.heap.size, 0, none⟩) (Nat.le_refl _) _).setCell (p := ⟨w.heap.size, 1, none⟩) (Nat.le_refl _) _).setCell (p := ⟨w.heap.size + 1, 0, none⟩) (by show w.heap.size ≤ w.heap.size + 1; omega) _
    have hbo := own_base' HO.out
    have zo : (((Wm.setCell ⟨w.heap.size, 0, none⟩ (.int .i64 (at8 l 0))).setCell ⟨w.heap.size, 1, none⟩ (.slice A1 nn c1)).setCell ⟨w.heap.size + 1, 0, none⟩ (.int .i64 0)).ownsRow w3.heap.size 57 6 (.slice A1 nn c1) nn (erC (desL l)) := by
      rw [← HXS.out]
      exact own_keep HO.out (Nat.le_refl _) (fun k hk hl => by
        have := hbo k hk
        rw [Below.heap_setCell _ ⟨w.heap.size + 1, 0, none⟩ _ k (by show k ≠ w.heap.size + 1; omega), Below.heap_setCell _ ⟨w.heap.size, 1, none⟩ _ k (by show k ≠ w.heap.size; omega), Below.heap_setCell _ ⟨w.heap.size, 0, none⟩ _ k (by show k ≠ w.heap.size; omega)])
    clear d0 d1 g0 g1 e0 e1 HDD HQ1 HK0 HO bm
    generalize ((Wm.setCell ⟨w.heap.size, 0, none⟩ (.int .i64 (at8 l 0))).setCell ⟨w.heap.size, 1, none⟩ (.slice A1 nn c1)).setCell ⟨w.heap.size + 1, 0, none⟩ (.int .i64 0) = wz at *
    have y0 : Blk (wz.putObj D0 (.deferred none)) w.heap.size 35 #[.int .i64 (at8 l 0), .slice A1 nn c1] := (World.putObj_heap_other (by omega)).trans zd
    have y1 : Blk (wz.putObj D0 (.deferred none)) (w.heap.size + 1) 29 #[.int .i64 0] := (World.putObj_heap_other (by omega)).trans ze
    have yo : (wz.putObj D0 (.deferred none)).ownsRow w3.heap.size 57 6 (.slice A1 nn c1) nn (erC (desL l)) := own_grown zo (grownBy_putObj' _ D0 (.deferred none)) (fun r e => by cases e; exact ⟨_, K0, rfl⟩)
    have yb : Below w.heap.size w (wz.putObj D0 (.deferred none)) := bz.trans (below_putObj wz D0 _ (by omega))
    obtain ⟨A2, c2, he, q1, q2, q3, q4⟩ := own_row yo
    injection he with e1 e2 e3
    subst e1 e3
    refine .inr ⟨by simp, D0, _, rfl, run_takeDeferred K0, .inl ?_⟩
    refine leaves_cons (f := 84) (args := #[.pointer (some ⟨w.heap.size, 0, none⟩), .pointer (some ⟨w.heap.size + 1, 0, none⟩)]) (by simp) (by simp [go_sem]) ?_
    with_reducible refine (pk_idle w.heap.size (w.heap.size + 1) _).mono ?_
    rintro e u' w'' ⟨rfl, rfl, rfl⟩
    have d0 := (y0).cell 0
    have d1 := (y0).cell 1
    simp only [List.getElem?_toArray, List.getElem?_cons_zero, List.getElem?_cons_succ] at d0 d1
    have h0 := (y1).cell 0
    simp only [List.getElem?_toArray, List.getElem?_cons_zero, List.getElem?_cons_succ] at h0
    have hfin : DecP l w (.returned (.tuple #[.agg #[.int .i64 (at8 l 0), .slice A1 nn c1], .int .i64 0])) (wz.putObj D0 (.deferred none)) := by
      refine ⟨A1, c1, ?_, by rw [← HNL.out]; exact q1, by unfold maxLen at q2; omega, q3, yb, fun a ha => by have := q4 a ha; omega⟩
      rw [HD.out.2.1, HD.out.2.2, ← HNL.out]
    clear K0 zd ze zo y0 y1 yo
    generalize wz.putObj D0 (.deferred none) = wf at *
    simp [Leaves, settle, results, Tryz.results43, go_sem, d0, d1, h0]
    exact hfin

theorem decode_any (l : List UInt8) (n : Nat) (hn : l.length = n) (A : Option Addr) (c B : Nat) (w : World) (hw : WidthsAt w) (h : Rd w B A (l.map b8)) (hlc : n ≤ c) (hc : c ≤ 9223372036854775807) (hB : B ≤ w.heap.size) :
    Calls Tryz.prog 43 #[.slice A n c] w (DecP l w) := by
  by_cases hE : decE l = 0
  · exact decode_ok l n hn A c B w hw h hlc hc hB hE
  · exact decode_bad l n hn A c B w hw h hlc hc hB hE
end Go.Proofs.YtlanfceilajifaaGreatDoor
/- packet: the document's Check, Encode, Decode; AsksAll, Same. -/
namespace Go.Proofs.YtlanfceilajifaaGreatDoor
set_option linter.unusedVariables false
set_option linter.unusedSimpArgs false
open Go.RowKit
set_option maxRecDepth 100000
theorem byte_at {w : World} {B : Nat} {A : Option Addr} {l : List UInt8} (h : Rd w B A (l.map b8)) (h4 : 4 ≤ l.length) :
    ∃ b off, A = some ⟨b, off, none⟩ ∧ b < B ∧ w.cell? ⟨b, off, none⟩ = some (.int .u8 (at8 l 0)) ∧ w.cell? ⟨b, off + 1, none⟩ = some (.int .u8 (at8 l 1)) ∧ w.cell? ⟨b, off + 2, none⟩ = some (.int .u8 (at8 l 2)) ∧ w.cell? ⟨b, off + 3, none⟩ = some (.int .u8 (at8 l 3)) := by
  obtain ⟨b, off, rfl, hb, hc⟩ := h (by rw [List.length_map]; omega)
  have key : ∀ i, i < l.length → w.cell? ⟨b, off + i, none⟩ = some (.int .u8 (at8 l i)) := fun i hi => by
    rw [hc i (b8 (l[i])) (by simp [List.getElem?_eq_getElem hi])]
    unfold b8 at8
    rw [List.getD, List.getElem?_eq_getElem hi]
    rfl
  exact ⟨b, off, rfl, hb, key 0 (by omega), key 1 (by omega), key 2 (by omega), key 3 (by omega)⟩

set_option maxHeartbeats 4000000 in
theorem refcheck5_any (l : List UInt8) (n : Nat) (hn : l.length = n) (A : Option Addr) (c B : Nat) (w : World) (h : Rd w B A (l.map b8)) (hlc : n ≤ c) (hc : c ≤ 9223372036854775807) :
    Calls Tryz.prog 90 #[.slice A n c] w fun e w' => e = .returned (.int .i64 (decE l)) ∧ w = w' := by
  have HN := Lib.hid hn
  have HR := Lib.hid h
  clear h hn
  by_cases h1 : 4 ≤ n
  case neg =>
    rw [show decE l = 150 by unfold decE; rw [if_pos (by rw [HN.out]; omega)]]
    have g1 : decide ((n : Int) < 4) = true := decide_eq_true (by omega)
    go_enter Tryz.func90, Tryz.ntmps90
    go_wp2
    all_goals first | (go_ret; exact ⟨rfl, rfl⟩) | (exfalso; omega)
  by_cases h2 : (n - 4) % 20 = 0 ∧ n ≤ 504
  case neg =>
    rw [show decE l = 151 by unfold decE; rw [if_neg (by rw [HN.out]; omega), if_pos (by rw [HN.out]; exact h2)]]
    have g1 : decide ((n : Int) < 4) = false := decide_eq_false (by omega)
    have h2x : ((n : Int) - 4) % 20 = 0 → (504 : Int) < (n : Int) := fun hh => by omega
    go_enter Tryz.func90, Tryz.ntmps90
    go_wp2
    all_goals first | (go_ret; exact ⟨rfl, rfl⟩) | (exfalso; omega)
  by_cases h3 : at8 l 1 = 2
  case neg =>
    rw [show decE l = 152 by unfold decE; rw [if_neg (by rw [HN.out]; omega), if_neg (by rw [HN.out]; exact fun hh => hh h2), if_pos h3]]
    have g1 : decide ((n : Int) < 4) = false := decide_eq_false (by omega)
    obtain ⟨b, off, hA, _, q0, q1, q2, q3⟩ := byte_at HR.out (by rw [HN.out]; exact h1)
    subst hA
    have h2m : ((n : Int) - 4) % 20 = 0 := by omega
    have h2n : ¬ (504 : Int) < (n : Int) := by omega
    have g3 : ((at8 l 1 : Int) != 2) = true := by rw [bne_iff_ne]; omega
    clear HR
    go_enter Tryz.func90, Tryz.ntmps90
    go_wp2
    all_goals first | (go_ret; exact ⟨rfl, rfl⟩) | (exfalso; omega)
  by_cases h4 : cmdB (at8 l 0) = true
  case neg =>
    rw [show decE l = 153 by unfold decE; rw [if_neg (by rw [HN.out]; omega), if_neg (by rw [HN.out]; exact fun hh => hh h2), if_neg (by intro hh; exact hh h3), if_pos (by simpa using h4)]]
    have g1 : decide ((n : Int) < 4) = false := decide_eq_false (by omega)
    obtain ⟨b, off, hA, _, q0, q1, q2, q3⟩ := byte_at HR.out (by rw [HN.out]; exact h1)
    subst hA
    have h2m : ((n : Int) - 4) % 20 = 0 := by omega
    have h2n : ¬ (504 : Int) < (n : Int) := by omega
    have g3 : ((at8 l 1 : Int) != 2) = false := by simp; omega
    have g4 : ((at8 l 0 : Int) != 1) = true := by rw [bne_iff_ne]; intro e; exact h4 (decide_eq_true (.inl e))
    have g4b : ((at8 l 0 : Int) != 2) = true := by rw [bne_iff_ne]; intro e; exact h4 (decide_eq_true (.inr e))
    clear HR
    go_enter Tryz.func90, Tryz.ntmps90
    go_wp2
    all_goals first | (go_ret; exact ⟨rfl, rfl⟩) | (exfalso; omega)
  by_cases h5 : at8 l 2 = 0 ∧ at8 l 3 = 0
  case neg =>
    rw [show decE l = 154 by unfold decE; rw [if_neg (by rw [HN.out]; omega), if_neg (by rw [HN.out]; exact fun hh => hh h2), if_neg (by intro hh; exact hh h3), if_neg (by rw [h4]; simp), if_pos (by omega)]]
    have g1 : decide ((n : Int) < 4) = false := decide_eq_false (by omega)
    obtain ⟨b, off, hA, _, q0, q1, q2, q3⟩ := byte_at HR.out (by rw [HN.out]; exact h1)
    subst hA
    have h2m : ((n : Int) - 4) % 20 = 0 := by omega
    have h2n : ¬ (504 : Int) < (n : Int) := by omega
    have g3 : ((at8 l 1 : Int) != 2) = false := by simp; omega
    have hcm := cmd_cases h4
    clear HR
    rcases hcm with hcm | hcm
    all_goals
      simp only [hcm] at q0
      by_cases h5a : at8 l 2 = 0
      · have g5 : ((at8 l 2 : Int) != 0) = false := by simp; omega
        have g5b : ((at8 l 3 : Int) != 0) = true := by rw [bne_iff_ne]; omega
        clear h5a h5
        go_enter Tryz.func90, Tryz.ntmps90
        go_wp2
        go_ret
        exact ⟨rfl, rfl⟩
      · have g5 : ((at8 l 2 : Int) != 0) = true := by rw [bne_iff_ne]; omega
        clear h5a h5
        go_enter Tryz.func90, Tryz.ntmps90
        go_wp2
        go_ret
        exact ⟨rfl, rfl⟩
  rw [show decE l = 0 by unfold decE; rw [if_neg (by rw [HN.out]; omega), if_neg (by rw [HN.out]; exact fun hh => hh h2), if_neg (by intro hh; exact hh h3), if_neg (by rw [h4]; simp), if_neg (by intro hh; exact hh (by omega))]]
  have g1 : decide ((n : Int) < 4) = false := decide_eq_false (by omega)
  obtain ⟨b, off, hA, _, q0, q1, q2, q3⟩ := byte_at HR.out (by rw [HN.out]; exact h1)
  subst hA
  have h2m : ((n : Int) - 4) % 20 = 0 := by omega
  have h2n : ¬ (504 : Int) < (n : Int) := by omega
  have g3 : ((at8 l 1 : Int) != 2) = false := by simp; omega
  have hcm := cmd_cases h4
  clear HR
  rcases hcm with hcm | hcm
  all_goals
    simp only [hcm] at q0
    have g5 : ((at8 l 2 : Int) != 0) = false := by simp; omega
    have g5b : ((at8 l 3 : Int) != 0) = false := by simp; omega
    go_enter Tryz.func90, Tryz.ntmps90
    go_wp2
    go_ret
    exact ⟨rfl, rfl⟩

set_option maxHeartbeats 4000000 in
theorem refencode5_any (cm : Int) (l : List Er) (n c : Nat) (hn : l.length = n) (A : Option Addr) (w : World) (hr : Rd w w.heap.size A (erC l)) (hf : ∀ e ∈ l, fitR e) (hc : n ≤ c ∧ c ≤ 9223372036854775807) :
    Calls Tryz.prog 21 #[.agg #[.int .i64 cm, .slice A n c]] w (GivesB (encB cm l) (encE cm l) w) := by
  have HN := Lib.hid hn
  have HR := Lib.hid hr
  have HF := Lib.hid hf
  have hB1 : Below w.heap.size w (w.alloc (.cells #[.int .i64 cm, .slice A n c] 35)) := balloc (Below.refl _ _) _
  have HB1 := Lib.hid hB1
  have HX := Lib.hid (Blk.new w 35 #[.int .i64 cm, .slice A n c])
  clear hn hr hf
  have HIC := Lib.hid (fun W => refcmd_any cm W)
  cases hcm : cmdB cm
  · rw [hcm] at HIC
    have he : encE cm l = 2 := by unfold encE; rw [if_pos hcm]
    have he2 : encB cm l = [] := by unfold encB; rw [he]; rfl
    rw [he, he2]
    clear hcm he he2
    go_enter Tryz.func21, Tryz.ntmps21
    go_wp2_with (go_at_call 57; refine (HIC.out _).mono ?_; rintro e w' ⟨rfl, rfl⟩)
    go_ret2
    exact gives_none 2 HB1.out
  have HCM := Lib.hid hcm
  rw [hcm] at HIC
  by_cases h25 : 25 < n
  · have he : encE cm l = 3 := by unfold encE; rw [if_neg (by rw [hcm]; simp), if_pos (by rw [HN.out]; exact h25)]
    have he2 : encB cm l = [] := by unfold encB; rw [he]; rfl
    rw [he, he2]
    have g1 : decide ((25 : Int) < n) = true := decide_eq_true (by omega)
    have g1' : decide (25 < n) = true := decide_eq_true h25
    clear hcm he he2
    go_enter Tryz.func21, Tryz.ntmps21
    go_wp2_with (go_at_call 57; refine (HIC.out _).mono ?_; rintro e w' ⟨rfl, rfl⟩)
    go_ret2
    exact gives_none 3 HB1.out
  have g1 : decide ((25 : Int) < n) = false := decide_eq_false (by omega)
  have g1' : decide (25 < n) = false := decide_eq_false h25
  have HE := Lib.hid (show encE cm l = if l.all okE then 0 else 2 by unfold encE; rw [if_neg (by rw [hcm]; simp), if_neg (by rw [HN.out]; exact h25)])
  clear hcm
  go_enter Tryz.func21, Tryz.ntmps21
  go_wp2_with (go_at_call 57; refine (HIC.out _).mono ?_; rintro e w' ⟨rfl, rfl⟩)
  go_loopw [4] (fun i wr => ∃ j : Nat, j ≤ n ∧ i = .int .i64 j ∧ Below w.heap.size w wr ∧ Blk wr w.heap.size 35 #[.int .i64 cm, .slice A n c] ∧ (l.take j).all okE = true) (fun i _ => n - (intOf i).toNat)
  case atStart => exact ⟨0, Nat.zero_le _, rfl, HB1.out, HX.out, by simp⟩
  case round =>
    obtain ⟨j, hj, rfl, hb, hx, hall⟩ := hrel
    have HB := Lib.hid hb
    have HA := Lib.hid hall
    have HXX := Lib.hid hx
    have d0 := (hx).cell 0
    have d1 := (hx).cell 1
    simp only [List.getElem?_toArray, List.getElem?_cons_zero, List.getElem?_cons_succ] at d0 d1
    have kl := hx.lt
    clear hb hall hx
    by_cases hlt : j < n
    · obtain ⟨x, hx⟩ : ∃ x, l[j]? = some x := ⟨l[j]'(by rw [HN.out]; exact hlt), List.getElem?_eq_getElem _⟩
      obtain ⟨b, off, hAe, _, q0, q1, q2, q3, q4, q5⟩ := er_at (HR.out.below HB.out) hx
      subst hAe
      have HM := Lib.hid (List.mem_of_getElem? hx)
      have HNX := Lib.hid (show (l.take (j + 1)).all okE = okE x by rw [List.take_add_one, hx]; simp only [Option.toList_some, List.all_append, HA.out, Bool.true_and, List.all_cons, List.all_nil, Bool.and_true])
      have HC := Lib.hid (fun W => refRightE_any x.f x.t x.a x.m x.x x.k W)
      have hj2 : (0 : Int) ≤ (j : Int) ∧ (j : Int) < (n : Int) := by omega
      have hoe : rightF x.f x.t = okE x := rfl
      rw [hoe] at HC
      clear hx hoe
      cases hok : okE x
      · rw [hok] at HC
        have HE2 := Lib.hid (show encE cm l = 2 by rw [HE.out, if_neg (by rw [List.all_eq_false.2 ⟨x, HM.out, by rw [hok]; simp⟩]; simp)])
        clear hok
        go_wp2_with fail
        refine (HC.out _).mono ?_
        rintro e w2 ⟨rfl, b2⟩
        go_wp2_with fail
        go_ret2
        rw [HE2.out, show encB cm l = [] by unfold encB; rw [HE2.out]; rfl]
        exact gives_none 2 (bnext HB.out b2)
      · rw [hok] at HC HNX
        clear hok
        go_wp2_with fail
        refine (HC.out _).mono ?_
        rintro e w2 ⟨rfl, b2⟩
        have hx2 := HXX.out.below b2 HXX.out.lt
        go_wp2_with fail
        go_roundw
        case rel => exact ⟨j + 1, by omega, by go_num, bnext HB.out b2, hx2, HNX.out⟩
        case measure => simp [intOf]; omega
    · obtain rfl : j = n := by omega
      have HAL := Lib.hid (show l.all okE = true by have := HA.out; rwa [List.take_of_length_le (by rw [HN.out]; exact Nat.le_refl _)] at this)
      have HE2 := Lib.hid (show encE cm l = 0 by rw [HE.out, if_pos HAL.out])
      have HBY := Lib.hid (refbytes5_any cm l j c HN.out A wr ((HR.out.below HB.out).more HB.out.size) HF.out HCM.out (by omega) HAL.out)
      go_wp2_with fail
      refine HBY.out.mono ?_
      rintro e w2 ⟨A2, c2, rfl, q1, q2, q3, b2, _⟩
      go_wp2_with fail
      go_ret2
      rw [HE2.out, show encB cm l = pkB cm l by unfold encB; rw [if_pos HE2.out]]
      exact ⟨A2, c2, rfl, q1, by unfold maxLen at q2; omega, q3, bnext HB.out b2⟩

/-- what the document's Decode hands back -/
def DecR (l : List UInt8) (w : World) (e : Ending) (w' : World) : Prop :=
  ∃ A c, e = .returned (.tuple #[.agg #[.int .i64 (dcmd l), .slice A (desL l).length c], .int .i64 (decE l)]) ∧ (desL l).length ≤ c ∧ c ≤ 9223372036854775807 ∧ Rd w' w'.heap.size A (erC (desL l)) ∧ Below w.heap.size w w'
set_option maxHeartbeats 4000000 in
theorem refdecode5_any (l : List UInt8) (n : Nat) (hn : l.length = n) (A : Option Addr) (c B : Nat) (w : World) (h : Rd w B A (l.map b8)) (hlc : n ≤ c) (hc : c ≤ 9223372036854775807) (hB : B ≤ w.heap.size) :
    Calls Tryz.prog 45 #[.slice A n c] w (DecR l w) := by
  have hb1 : Below w.heap.size w (w.alloc (.cells #[.int .i64 0, .slice none 0 0] 35)) := balloc (Below.refl _ _) _
  have hx := Blk.new w 35 #[.int .i64 0, .slice none 0 0]
  have HCK := Lib.hid (refcheck5_any l n hn A c B _ (h.below (hb1.mono hB)) hlc hc)
  have HB1 := Lib.hid hb1
  have HX := Lib.hid hx
  have HR := Lib.hid (h.below (hb1.mono hB))
  have HN := Lib.hid hn
  have d0 := (hx).cell 0
  have d1 := (hx).cell 1
  simp only [List.getElem?_toArray, List.getElem?_cons_zero, List.getElem?_cons_succ] at d0 d1
  have f0 := hx.frozen 0
  have f1 := hx.frozen 1
  have kl := hx.lt
  clear hb1 hx h hn
  by_cases hE : decE l = 0
  case neg =>
    have hd : desL l = [] := by unfold desL; rw [if_neg hE]
    have hdc : dcmd l = 0 := by unfold dcmd; rw [if_neg hE]
    have HD := Lib.hid (And.intro hd hdc)
    obtain ⟨k, hk⟩ : ∃ k, k = decE l := ⟨_, rfl⟩
    rw [← hk] at HCK hE
    have HK := Lib.hid hk
    have g1 : ((k : Int) != 0) = true := by rw [bne_iff_ne]; exact hE
    have z := (HX.out.set 0 (.int .i64 0)).set 1 (.slice none 0 0)
    simp only [List.setIfInBounds_toArray, List.set_cons_zero, List.set_cons_succ] at z
    have z0 := z.cell 0
    have z1 := z.cell 1
    simp only [List.getElem?_toArray, List.getElem?_cons_zero, List.getElem?_cons_succ] at z0 z1
    have hbz : Below w.heap.size w (((w.alloc (.cells #[.int .i64 0, .slice none 0 0] 35)).setCell ⟨w.heap.size, 0, none⟩ (.int .i64 0)).setCell ⟨w.heap.size, 1, none⟩ (.slice none 0 0)) := (HB1.out.setCell (p := ⟨w.heap.size, 0, none⟩) (Nat.le_refl _) _).setCell (p := ⟨w.heap.size, 1, none⟩) (Nat.le_refl _) _
    have HBZ := Lib.hid hbz
    clear hk hd hdc hE z hbz
    go_enter Tryz.func45, Tryz.ntmps45
    go_wp2_with (go_at_call 90; refine HCK.out.mono ?_; rintro e w' ⟨rfl, rfl⟩)
    refine bodyPost_ret (v := .tuple #[.agg #[.int .i64 0, .slice none 0 0], .int .i64 k]) (by simp [results, Tryz.results45, go_sem, z0, z1]) rfl ?_
    refine ⟨none, 0, ?_, by rw [HD.out.1]; simp, by omega, by rw [HD.out.1]; exact Rd.nil, HB1.out⟩
    rw [HD.out.1, HD.out.2, ← HK.out]
    rfl
  case pos =>
    obtain ⟨h4, h20, h504, _⟩ := decE_zero hE
    have hd : desL l = ersOf (l.drop 4) := by unfold desL; rw [if_pos hE]
    have hdc : dcmd l = at8 l 0 := by unfold dcmd; rw [if_pos hE]
    have HD := Lib.hid (And.intro hd (And.intro hdc hE))
    rw [hE] at HCK
    rw [HN.out] at h4 h20 h504
    obtain ⟨b, off, hA, hbB, q0, _⟩ := byte_at HR.out (by rw [HN.out]; exact h4)
    have hlt8 := at8_lt l 0
    have hwr : IntKind.i64.wrap (at8 l 0 : Int) = at8 l 0 := IntWalk.i64_in _ ⟨by omega, by omega⟩
    subst hA
    clear hd hdc hE
    have hl4 : (l.drop 4).length = n - 4 := by rw [List.length_drop, HN.out]
    have hrd : ∃ A', (if c = 4 then A' = some ⟨b, off, none⟩ else A' = some ⟨b, off + 4, none⟩) ∧ Rd (w.alloc (.cells #[.int .i64 0, .slice none 0 0] 35)) B A' ((l.drop 4).map b8) := by
      by_cases hc4 : c = 4
      · refine ⟨some ⟨b, off, none⟩, by rw [if_pos hc4], fun h0 => ?_⟩
        rw [List.length_map, hl4] at h0
        omega
      · refine ⟨some ⟨b, off + 4, none⟩, by rw [if_neg hc4], ?_⟩
        by_cases hn4 : n = 4
        · intro h0
          rw [List.length_map, hl4] at h0
          omega
        · have := rd_drop HR.out 4 (by rw [HN.out]; omega)
          simpa [add_plain] using this
    obtain ⟨A', hA', hrA⟩ := hrd
    have HEA := Lib.hid (fun W (hW : Below (w.alloc (.cells #[.int .i64 0, .slice none 0 0] 35)).heap.size (w.alloc (.cells #[.int .i64 0, .slice none 0 0] 35)) W) => refEEach_new (l.drop 4) A' (c - 4) W ((hrA.below (hW.mono (Nat.le_trans hB HB1.out.size))).more (Nat.le_trans hB (Nat.le_trans HB1.out.size hW.size))) (by rw [hl4]; omega) (by omega) (by rw [hl4]; omega))
    rw [hl4] at HEA
    have hne : n - 4 = n - 4 := rfl
    have hx3 : (n - 4) / 20 = (desL l).length := by rw [HD.out.1, ersOf_len, hl4]
    have HX3 := Lib.hid hx3
    have HXE := Lib.hid (show entC (l.drop 4) ((n - 4) / 20) = erC (desL l) by rw [HD.out.1, ← hl4]; exact entC_ers _)
    have HL4 := Lib.hid hl4
    obtain ⟨nn, hnn⟩ : ∃ nn, nn = (n - 4) / 20 := ⟨_, rfl⟩
    rw [← hnn] at HEA HX3 HXE
    clear hrA hl4 hx3 hne hnn
    have s1 := q0
    obtain ⟨w1, hw1⟩ : ∃ w1, w1 = w.alloc (.cells #[.int .i64 0, .slice none 0 0] 35) := ⟨_, rfl⟩
    rw [← hw1] at HCK HEA HB1 HX s1 q0 d0 d1 f0 f1 kl
    have HW1 := Lib.hid hw1
    clear hw1 HR
    by_cases hc4 : c = 4
    case' pos =>
      rw [if_pos hc4] at hA'
      subst hc4
      obtain rfl : n = 4 := by omega
    case' neg =>
      rw [if_neg hc4] at hA'
    all_goals
      subst hA'
      go_enter Tryz.func45, Tryz.ntmps45
      go_wp2_with fail
      rw [← HW1.out]
      refine HCK.out.mono ?_
      rintro e w' ⟨rfl, rfl⟩
      have s0 : w1.drew.cell? ⟨b, off, none⟩ = some (.int .u8 (at8 l 0)) := q0
      have hbg : w.heap.size ≠ b := by omega
      have hbl := cell_lt q0
      try have hp1 : 0 < n := by omega
      try have hp2 : (4 : Int) ≤ (n : Int) := by omega
      go_wp2_with fail
      go_region_held3 (fun w' => w'.cell? ⟨b, off, none⟩ = some (.int .u8 (at8 l 0)))
        (first | exact s0 | exact s1 | exact (hb4.cell hbl).trans q0 | exact (World.cell?_setCell_far _ ⟨w.heap.size, 1, none⟩ ⟨b, off, none⟩ _ hbg).trans ((World.cell?_setCell_far _ ⟨w.heap.size, 0, none⟩ ⟨b, off, none⟩ _ hbg).trans ((hb4.cell hbl).trans q0)))
        ((go_at_call 91; refine (HEA.out _ (by first | exact Below.refl _ _ | exact below_drewN (Below.refl _ _) 1)).mono ?_; rintro e w4 ⟨A4, c4, rfl, q1, q2, q3, hb4, q4⟩; have y4 := HX.out.below (below_of_drewN (n := 1) hb4) HX.out.lt; have e0 := y4.cell 0; have e1 := y4.cell 1; have g0 := y4.frozen 0; have g1 := y4.frozen 1; simp only [List.getElem?_toArray, List.getElem?_cons_zero, List.getElem?_cons_succ] at e0 e1))
      have hb5 : Below w1.heap.size w1 w4 := below_of_drewN (n := 1) hb4
      have z := (y4.set 0 (.int .i64 (at8 l 0))).set 1 (.slice A4 nn c4)
      simp only [List.setIfInBounds_toArray, List.set_cons_zero, List.set_cons_succ] at z
      have z0 := z.cell 0
      have z1 := z.cell 1
      simp only [List.getElem?_toArray, List.getElem?_cons_zero, List.getElem?_cons_succ] at z0 z1
      have hA4 : ∀ a, A4 = some a → w.heap.size ≠ a.block := fun a ha e => by
        have h1 : w1.heap.size ≤ a.block := q4 a ha
        omega
      have hr4 := (q3.off (i := 0) hA4 (.int .i64 (at8 l 0))).off (i := 1) hA4 (.slice A4 nn c4)
      have hbz : Below w.heap.size w ((w4.setCell ⟨w.heap.size, 0, none⟩ (.int .i64 (at8 l 0))).setCell ⟨w.heap.size, 1, none⟩ (.slice A4 nn c4)) := ((bnext HB1.out hb5).setCell (p := ⟨w.heap.size, 0, none⟩) (Nat.le_refl _) _).setCell (p := ⟨w.heap.size, 1, none⟩) (Nat.le_refl _) _
      clear y4 e0 e1 g0 g1 z
      go_wp2_with fail
      refine bodyPost_ret (v := .tuple #[.agg #[.int .i64 (at8 l 0), .slice A4 nn c4], .int .i64 0]) (by simp [results, Tryz.results45, go_sem, z0, z1]) rfl ?_
      refine ⟨A4, c4, ?_, by rw [← HX3.out]; exact q1, by unfold maxLen at q2; omega, ?_, hbz⟩
      · rw [HD.out.2.1, HD.out.2.2, ← HX3.out]
      · rw [← HXE.out]
        simpa using hr4
end Go.Proofs.YtlanfceilajifaaGreatDoor
/- packet: AsksAll, Same; a list cut into pieces. -/
namespace Go.Proofs.YtlanfceilajifaaGreatDoor
set_option linter.unusedVariables false
set_option linter.unusedSimpArgs false
open Go.RowKit
set_option maxRecDepth 100000
def erAll : Er := ⟨0, 0, 0, 0, 0, 16⟩
def asksB (c : Int) (l : List Er) : Bool := decide (c = 1) && decide (l = [erAll])

set_option maxHeartbeats 1000000 in
theorem refpksame_any (cm cm' : Int) (l l' : List Er) (n n' c c' : Nat) (hn : l.length = n) (hn' : l'.length = n') (A A' : Option Addr) (w : World) (hr : Rd w w.heap.size A (erC l)) (hr' : Rd w w.heap.size A' (erC l')) (hc : n ≤ 9223372036854775807) :
    Calls Tryz.prog 14 #[.agg #[.int .i64 cm, .slice A n c], .agg #[.int .i64 cm', .slice A' n' c']] w fun e w' => e = .returned (.bool (decide (cm = cm' ∧ l = l'))) ∧ Below w.heap.size w w' := by
  have hb : Below w.heap.size w ((w.alloc (.cells #[.int .i64 cm, .slice A n c] 35)).alloc (.cells #[.int .i64 cm', .slice A' n' c'] 35)) := balloc (balloc (Below.refl _ _) _) _
  have HQ := Lib.hid (ersame_any l l' n n' c c' w.heap.size w.heap.size hn hn' A A' _ (hr.below hb) (hr'.below hb) hc)
  have HB := Lib.hid hb
  clear hr hr' hn hn' hb
  by_cases h : cm = cm'
  · subst h
    rw [show decide (cm = cm ∧ l = l') = decide (l = l') from decide_eq_decide.2 ⟨fun h => h.2, fun h => ⟨rfl, h⟩⟩]
    have g : (cm == cm) = true := by simp
    generalize decide (l = l') = rr at *
    go_enter Tryz.func14, Tryz.ntmps14
    go_wp2_with (go_at_call 46; refine HQ.out.mono ?_; rintro e w' ⟨rfl, m, rfl⟩)
    go_ret
    exact ⟨rfl, below_drewN HB.out _⟩
  · have g : (cm == cm') = false := by rw [beq_eq_false_iff_ne]; exact h
    rw [decide_eq_false (fun hh => h hh.1)]
    clear h
    go_enter Tryz.func14, Tryz.ntmps14
    go_wp2_with fail
    go_ret
    exact ⟨rfl, HB.out⟩
end Go.Proofs.YtlanfceilajifaaGreatDoor
