/- OctetHolds: the walk. -/
import Derived.Test.YtonjaoabehkecaaDoorReads
import Derived.Test.YtonjaoabehkecaaDoorBase2
import Derived.WalkLawsBesides
namespace Go.Proofs.YtonjaoabehkecaaDoor
open Go.RowKit

/-- a uint32 as a cell -/
def u32c (x : Nat) : Value := .int .u32 x

theorem put4_any (x : Nat) (w : World) (hw : WidthsAt w) (hx : x < 4294967296) :
    Calls Tryd.prog 9 #[.int .u32 x, .int .i64 4] w fun e w' => ∃ A c, e = .returned (.tuple #[.slice A 4 c, .int .i64 0]) ∧ Rd w' w'.heap.size A ((bs 4 x).map b8) ∧ Below w.heap.size w w' := by
  refine (put_any x 4 w hw hx).mono ?_
  have h : putF x 4 = (bs 4 x, 0) := by unfold putF; rw [if_neg (by decide), if_pos (by simpa using hx)]; rfl
  rw [h]
  rintro e w' ⟨A, c, rfl, _, _, r, b⟩
  exact ⟨A, c, by simp [bs_length], r, b⟩

theorem flat_len (L : List Nat) : (L.flatMap (bs 4)).length = 4 * L.length := by
  induction L with
  | nil => rfl
  | cons x L ih => simp [List.flatMap_cons, bs_length, ih]; omega
theorem flat_drop (L : List Nat) (k : Nat) : (L.flatMap (bs 4)).drop (4 * k) = (L.drop k).flatMap (bs 4) := by
  induction k generalizing L with
  | zero => simp
  | succ k ih =>
    cases L with
    | nil => simp
    | cons x L =>
      rw [List.flatMap_cons, show 4 * (k + 1) = (bs 4 x).length + 4 * k by rw [bs_length]; omega, List.drop_append, List.drop_succ_cons, ← ih L]
      simp
theorem flat_take (L : List Nat) (k : Nat) (h : k < L.length) : (L.take (k + 1)).flatMap (bs 4) = (L.take k).flatMap (bs 4) ++ bs 4 L[k] := by
  rw [List.take_succ_eq_append_getElem h, List.flatMap_append]; simp
theorem flat_read (L : List Nat) (k : Nat) (h : k < L.length) (hx : L[k] < 4294967296) : rdF (L.flatMap (bs 4)) ((4 * k : Nat) : Int) 4 = (L[k], 0) := by
  unfold rdF
  rw [if_neg (by decide), if_neg (by omega), if_neg (by rw [flat_len]; omega)]
  rw [Int.toNat_natCast, flat_drop, List.drop_eq_getElem_cons h, List.flatMap_cons, show (4 : Int).toNat = (bs 4 L[k]).length by rw [bs_length]; rfl, List.take_left, be_bs, Nat.mod_eq_of_lt (by simpa using hx)]
theorem flat_took (L : List Nat) (k : Nat) (h : k < L.length) (hx : L[k] < 4294967296) : tookP (L.flatMap (bs 4)) (4 * k) 4 = 4 * (k + 1) := by
  unfold tookP
  rw [flat_read L k h hx]; simp; omega

theorem less_snoc (a b : List UInt8) (h : a.length = b.length) (x y : UInt8) :
    Op.bytesLess (a ++ [x]) (b ++ [y]) = (Op.bytesLess a b || (a == b && decide (x < y))) := by
  induction a generalizing b with
  | nil =>
    cases b with
    | nil => simp [Op.bytesLess]
    | cons _ _ => simp at h
  | cons p a ih =>
    cases b with
    | nil => simp at h
    | cons q b =>
      have := ih b (by simpa using h)
      simp only [List.cons_append, Op.bytesLess, this, List.cons_beq_cons]
      cases (decide (p < q)) <;> cases (p == q) <;> cases (Op.bytesLess a b) <;> cases (a == b) <;> cases (decide (x < y)) <;> rfl
theorem less_bs (k : Nat) : ∀ m n : Nat, m < 256 ^ k → n < 256 ^ k → Op.bytesLess (bs k m) (bs k n) = decide (m < n) := by
  induction k with
  | zero => intro m n hm hn; simp at hm hn; subst hm hn; simp [bs, Op.bytesLess]
  | succ k ih =>
    intro m n hm hn
    rw [Nat.pow_succ] at hm hn
    have h1 := ih (m / 256) (n / 256) (by omega) (by omega)
    have h2 : (bs k (m / 256) == bs k (n / 256)) = decide (m / 256 = n / 256) := by
      rw [Bool.eq_iff_iff]
      simp only [beq_iff_eq, decide_eq_true_eq]
      constructor
      · intro e
        have := congrArg be e
        rw [be_bs, be_bs, Nat.mod_eq_of_lt (by omega), Nat.mod_eq_of_lt (by omega)] at this
        exact this
      · intro e; rw [e]
    rw [bs, bs, less_snoc _ _ (by rw [bs_length, bs_length]), h1, h2]
    rw [Bool.eq_iff_iff]
    simp [UInt8.lt_iff_toNat_lt]
    omega
theorem putF_two (m n : Nat) (k : Int) : (0 ≤ (putF m k).2 ∧ (putF m k).2 ≤ 4) ∧ (0 ≤ (putF n k).2 ∧ (putF n k).2 ≤ 4) ∧
    (((putF m k).2 = 0 ∧ (putF n k).2 = 0 ∧ Op.bytesLess (str (putF m k).1).toList (str (putF n k).1).toList = decide (m < n)) ∨ (((putF m k).2 + (putF n k).2) == 0) = false) := by
  simp only [str_toList]
  unfold putF
  by_cases h : isW k = false
  · simp [h]
  · rw [if_neg h, if_neg h]
    by_cases h1 : m < 256 ^ k.toNat
    · by_cases h2 : n < 256 ^ k.toNat
      · rw [if_pos h1, if_pos h2]
        exact ⟨by simp, by simp, .inl ⟨rfl, rfl, less_bs _ _ _ h1 h2⟩⟩
      · simp [h1, h2]
    · by_cases h2 : n < 256 ^ k.toNat <;> simp [h1, h2]

set_option maxHeartbeats 2000000 in
set_option maxRecDepth 100000 in
theorem holds_walk (m n : Nat) (k : Int) (A : Option Addr) (c : Nat) (L : List Nat) (w : World) (hw : WidthsAt w) (hm : m < 4294967296) (hn : n < 4294967296) (hL : ∀ x ∈ L, x < 4294967296)
    (r0 : Rd w w.heap.size A (L.map u32c)) :
    Calls Tryd.prog 5 #[.int .u32 m, .int .u32 n, .int .i64 k, .slice A L.length c] w fun e w' => e = .returned (.bool true) ∧ Below w.heap.size w w' := by
  have HW := Lib.hid hw
  clear hw
  by_cases h2 : 20 < L.length
  · go_enter Tryd.func5, Tryd.ntmps5
    go_wp2_with (go_at_call 8; refine (works_any _ HW.out).mono ?_; rintro e w' ⟨rfl, b1⟩)
    go_ret
    exact ⟨rfl, b1⟩
  obtain ⟨i0, hi0, hz0, hz1, hz2⟩ := info_parts u8_info
  have P1 := fun W (h : WidthsAt W) => put_any m k W h hm
  have P2 := fun W (h : WidthsAt W) => put_any n k W h hn
  have hT := putF_two m n k
  generalize putF m k = r1 at *
  generalize putF n k = r2 at *
  obtain ⟨l1, e1⟩ := r1
  obtain ⟨l2, e2⟩ := r2
  simp only at P1 P2 hT
  have C1 := Lib.hid P1
  have C2 := Lib.hid P2
  clear P1 P2
  have HL := Lib.hid hL
  clear hL
  obtain ⟨he1, he2, hc⟩ := hT
  rcases hc with ⟨rfl, rfl, hbl⟩ | hs
  all_goals
    go_enter Tryd.func5, Tryd.ntmps5
    go_wp2_with fail
    refine (C1.out _ HW.out).mono ?_
    rintro e w1 ⟨A1, c1, rfl, _, _, q1, b1⟩
    go_wp2_with fail
    refine (C2.out _ (HW.out.below b1)).mono ?_
    rintro e w2 ⟨A2, c2, rfl, _, _, q2, b2⟩
    replace q1 := q1.below b2
    replace b2 := bnext b1 b2
    have s1 := conv_rd (P := Tryd.prog) 23 9 5 Tryd.underlying23 Tryd.underlying5 Tryd.underlying9 c1 q1
    have s2 := conv_rd (P := Tryd.prog) 23 9 5 Tryd.underlying23 Tryd.underlying5 Tryd.underlying9 c2 q2
    go_wp2_with (go_at_call 11; refine (num_any _ _).mono ?_; rintro e w' ⟨rfl, rfl⟩)
    clear s1 s2 C1 C2
    go_loopw [13, 14] (fun v i wr => ∃ j : Nat, j ≤ L.length ∧ i = .int .i64 j ∧ wr.ownsRow w2.heap.size 5 1 v (4 * j) (((L.take j).flatMap (bs 4)).map b8) ∧ Below w.heap.size w wr ∧ w2.heap.size ≤ wr.heap.size) (fun _ i _ => L.length - (intOf i).toNat)
    case atStart => exact ⟨0, Nat.zero_le _, rfl, World.ownsRow_nil _ _ _ _, b2, Nat.le_refl _⟩
    case round =>
      obtain ⟨j, hj, rfl, hown, hb, hsz⟩ := hrel
      by_cases hlt : j < L.length
      · have hx := HL.out L[j] (List.getElem_mem hlt)
        obtain ⟨b, off, rfl, hbb, hcell⟩ := (r0.below hb).at (k := j) (by simpa using hlt)
        rw [List.getElem_map] at hcell
        have HF := Lib.hid (flat_take L j hlt)
        unfold u32c at hcell
        generalize L[j] = x at *
        go_wp2_with fail
        refine (put4_any x _ (HW.out.below hb) hx).mono ?_
        rintro e w4 ⟨A4, c4, rfl, q4, b4⟩
        have hown4 := own_below hown b4
        have hb4 := bnext hb b4
        go_wp2_with (first
          | (go_at_call 11; refine (num_any _ _).mono ?_; rintro e w' ⟨rfl, rfl⟩)
          | (at_builtin; refine wpList_append_rd rfl (.tmp 71) (.tmp 72) _ rfl w2.heap.size 5 i0 _ 1 1 Tryd.underlying23 hi0 hz0 hz1 hz2 rfl (by omega) u13 _ _ rfl hown4 4 c4 ((bs 4 x).map b8) rfl (by simp [bs_length]) q4 (b8_one _) (by simp only [maxLen]; omega) (by omega) (by have := b4.size; omega) ?_
             intro v5 w5 ho5 hg5 ha5
             have hb5 : Below w.heap.size w w5 := hb4.grown hg5 hb4.size (fun k hk => by have := (hown4.lt k hk).1; have := b2.size; omega)
             have hs5 : w2.heap.size ≤ w5.heap.size := by have := b4.size; have := hg5.size; omega
             rw [← List.map_append, ← HF.out] at ho5
             clear hg5 ha5 hown4 hown hb4 hb b4))
        go_roundw
        case rel => exact ⟨j + 1, by omega, by go_num, by rw [show 4 * (j + 1) = 4 * j + 4 by omega]; exact ho5, hb5, hs5⟩
        case measure => simp [intOf]; omega
      · obtain rfl : j = L.length := by omega
        rw [List.take_length] at hown
        clear hlt hj
        obtain ⟨A5, c5, rfl, g1, g2, g3⟩ := own_slice (flat_len L) hown
        unfold maxLen at g2
        have hln := flat_len L
        have hrd := flat_read L
        have htk := flat_took L
        generalize L.flatMap (bs 4) = ll at *
        have HN := Lib.hid hln
        have HR := Lib.hid hrd
        have HT := Lib.hid htk
        have hl80 : ll.length ≤ 80 := by omega
        clear hln hrd htk hown
        go_wp2_with fail
        refine (new_any ll _ rfl _ _ _ _ g3 (by omega) (Nat.le_refl _)).mono ?_
        rintro e w6 ⟨g, rfl, hr6, hg6, b6⟩
        have hb6 := bnext hb b6
        have hwg : w.heap.size ≤ g := by have := hb.size; omega
        clear hb b6 g3
        go_wp2_with fail
        go_loopw [18] (fun i wr => ∃ j : Nat, j ≤ L.length ∧ i = .int .i64 j ∧ IsRdr wr g ll (4 * j) ∧ Below w.heap.size w wr) (fun i _ => L.length - (intOf i).toNat)
        case atStart => exact ⟨0, Nat.zero_le _, rfl, hr6, hb6⟩
        case round =>
          obtain ⟨j, hj, rfl, hrj, hbj⟩ := hrel
          by_cases hlt : j < L.length
          · have hx := HL.out L[j] (List.getElem_mem hlt)
            have hrd := HR.out j hlt hx
            have htk := HT.out j hlt hx
            obtain ⟨b, off, rfl, hbb, hcell⟩ := (r0.below hbj).at (k := j) (by simpa using hlt)
            rw [List.getElem_map] at hcell
            unfold u32c at hcell
            generalize L[j] = x at *
            have hTk := take_some g 4 wr ll (4 * j) hrj (HW.out.below hbj)
            rw [hrd, htk] at hTk
            have HK := Lib.hid hTk
            clear hrd htk hTk
            have hxx : ((x : Int) != x) = false := by simp
            go_wp2_with fail
            refine HK.out.mono ?_
            rintro e w7 ⟨rfl, hr7, g7⟩
            have hc7 : w7.cell? ⟨b, off + j, none⟩ = some (.int .u32 x) := (World.cell?_of_block (g7.block b (by have := hbj.size; omega) (by intro e; injection e; omega))).trans hcell
            have hb7 := bgrown hbj g7 hwg
            clear hcell HK hrj hbj
            go_wp2_with (go_at_call 11; refine (num_any _ _).mono ?_; rintro e w' ⟨rfl, rfl⟩)
            go_roundw
            case rel => exact ⟨j + 1, by omega, by go_num, hr7, hb7⟩
            case measure => simp [intOf]; omega
          · obtain rfl : j = L.length := by omega
            have hz : ll.length - 4 * L.length = 0 := by have := HN.out; omega
            have hLf := left_some g wr ll _ hrj
            rw [hz] at hLf
            have HLf := Lib.hid hLf
            clear hLf hz
            go_wp2_with fail
            refine HLf.out.mono ?_
            rintro e w7 ⟨rfl, m7, rfl⟩
            go_wp2_with (go_at_call 8; refine (works_any _ ((HW.out.below hbj).drewN m7)).mono ?_; rintro e w' ⟨rfl, b8⟩)
            go_ret
            exact ⟨rfl, bnext (below_drewN hbj m7) b8⟩
end Go.Proofs.YtonjaoabehkecaaDoor
