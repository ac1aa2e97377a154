/- OctetPlays: the walk. -/
import Derived.Test.YtonjaoabehkecaaDoorOP2
import Derived.Test.YtonjaoabehkecaaDoorWorks3
import Derived.Deep.CutRange
import Derived.Deep.CutBlock
import Derived.IntWalk
import Derived.Test.YtonjaoabehkecaaDoorInv
namespace Go.Proofs.YtonjaoabehkecaaDoor
set_option linter.unusedVariables false
set_option linter.unusedSimpArgs false
open Go.RowKit
set_option maxRecDepth 100000

def ptL (x : Int × Int) : List Value := [.int .i64 x.1, .int .i64 x.2]
def ptC (l : List (Int × Int)) : List Value := l.flatMap ptL
theorem ptL_len (x : Int × Int) : (ptL x).length = 2 := rfl
theorem IsRdr.lt {w : World} {g p : Nat} {l : List UInt8} (h : IsRdr w g l p) : g < w.heap.size := by obtain ⟨A, c, hb, _⟩ := h; exact hb.lt
theorem IsRdr.fr {P : Nat → Prop} {w w' : World} {g p : Nat} {l : List UInt8} (h : IsRdr w g l p) (f : Fr P w w') (hg : P g) (hlo : ∀ b, b < g → P b) : IsRdr w' g l p := by
  obtain ⟨A, c, hb, hr, h1, h2, h3⟩ := h
  exact ⟨A, c, f.blk hb hg, fun h0 => by
    obtain ⟨b, off, e, hl, hc⟩ := hr h0
    exact ⟨b, off, e, hl, fun i u hu => f.cell (hc i u hu) (hlo b hl)⟩, h1, h2, h3⟩
theorem Blk.two {w : World} {g : Nat} {t : TypeId} {a0 a1 : Value} (h : Blk w g t #[a0, a1]) : w.cell? ⟨g, 0, none⟩ = some a0 ∧ w.cell? ⟨g, 1, none⟩ = some a1 := ⟨h.cell 0, h.cell 1⟩
/-- the document's reader in its box, and a call's two numbers -/
abbrev COP (b7 bb o : Nat) (A : Option Addr) (N c p : Nat) (wh k : Int) (W : World) : Prop := (W.cell? ⟨b7, 0, none⟩ = some (.slice A N c) ∧ W.cell? ⟨b7, 1, none⟩ = some (.int .i64 p)) ∧ W.cell? ⟨bb, o, none⟩ = some (.int .i64 wh) ∧ W.cell? ⟨bb, o + 1, none⟩ = some (.int .i64 k)
theorem zblk3 {wr w5 : World} (b5 : Below (wr.alloc (.cells #[.slice none 0 0, .int .i64 0] 48)).drew.heap.size (wr.alloc (.cells #[.slice none 0 0, .int .i64 0] 48)).drew w5) : Blk w5 wr.heap.size 48 #[.slice none 0 0, .int .i64 0] :=
  Blk.below (w := (wr.alloc (.cells #[.slice none 0 0, .int .i64 0] 48)).drew) (Blk.new wr 48 #[.slice none 0 0, .int .i64 0]) b5 (by show _ < (wr.alloc _).heap.size; simp)
theorem zset3 {w : World} {b : Nat} {x y : Value} (h : Blk w b 48 #[x, y]) (u v : Value) : Blk ((w.setCell ⟨b, 0, none⟩ u).setCell ⟨b, 1, none⟩ v) b 48 #[u, v] := by
  have := (h.set 0 u).set 1 v
  simpa using this

theorem cut_rest (A : Option Addr) (N c p : Nat) (hp : p ≤ N) (hN : N ≤ c) (hc : c ≤ 9223372036854775807) {w : World} (l : List UInt8) (hl : l.length = N) (h : Rd w w.heap.size A (l.map b8)) : ∃ A4, (∀ W, (Instr.slice 23 (.slice A N c) (some (.int .i64 p)) none none).run Tryd.prog W = .ok (.slice A4 (N - p) (c - p)) W) ∧
    ∀ W, Below w.heap.size w W → Rd W w.heap.size A4 ((l.drop p).map b8) := by
  refine ⟨if c = p then A else A.map (·.add p), fun W => ?_, fun W hW => ?_⟩
  · have := run_slice_l W 23 A N c Tryd.underlying23 .i64 (p : Int) (by omega) (by omega)
    rw [this]
    cases A <;> simp [go_sem, sliced]
  · by_cases h0 : N = p
    · rw [List.drop_eq_nil_of_le (by omega)]; exact Rd.nil
    · rw [if_neg (by omega)]
      have h2 := (h.below hW).cut p (N - p) (by omega) (by simp; omega)
      rw [List.take_of_length_le (by simp; omega)] at h2
      rwa [List.map_drop]
/-- what each operation of the last test yields -/
def T32 (g b7 N c p : Nat) (A A4 : Option Addr) (ds : List UInt8) : Nat → Value → World → Prop
  | 0, v, _ => v = .pointer (some ⟨g, 0, none⟩)
  | 1, v, _ => v = .int .i64 (p : Nat)
  | 2, v, _ => v = .pointer (some ⟨b7, 1, none⟩)
  | 3, v, _ => v = .int .i64 (p : Nat)
  | 4, v, _ => v = .bool false
  | 5, v, _ => v = .bool false
  | 6, v, _ => v = .pointer (some ⟨g, 0, none⟩)
  | 7, v, _ => v = .int .i64 ((N : Int) - (p : Nat))
  | 8, v, _ => v = .slice A N c
  | 9, v, _ => v = .int .i64 (N : Nat)
  | 10, v, _ => v = .pointer (some ⟨b7, 1, none⟩)
  | 11, v, _ => v = .int .i64 (p : Nat)
  | 12, v, _ => v = .int .i64 ((N : Int) - (p : Nat))
  | 13, v, _ => v = .bool false
  | 14, v, _ => v = .bool false
  | 15, v, _ => v = .bool false
  | 16, v, _ => v = .pointer (some ⟨g, 0, none⟩)
  | 17, v, w => ∃ A3 c3, v = .slice A3 ds.length c3 ∧ Rd w w.heap.size A3 (ds.map b8)
  | 18, v, _ => v = .string (str ds)
  | 19, v, _ => v = .slice A N c
  | 20, v, _ => v = .pointer (some ⟨b7, 1, none⟩)
  | 21, v, _ => v = .int .i64 (p : Nat)
  | 22, v, _ => v = .slice A4 (N - p) (c - p)
  | 23, v, _ => v = .string (str ds)
  | 24, v, _ => v = .bool false
  | 25, v, _ => v = .bool false
  | _, _, _ => True
theorem T32_stable {g b7 N c p : Nat} {A A4 : Option Addr} {ds : List UInt8} (i : Nat) (v : Value) (w w' : World) (h : T32 g b7 N c p A A4 ds i v w) (hb : Below w.heap.size w w') : T32 g b7 N c p A A4 ds i v w' := by
  match i, h with
  | 0, h => exact h
  | 1, h => exact h
  | 2, h => exact h
  | 3, h => exact h
  | 4, h => exact h
  | 5, h => exact h
  | 6, h => exact h
  | 7, h => exact h
  | 8, h => exact h
  | 9, h => exact h
  | 10, h => exact h
  | 11, h => exact h
  | 12, h => exact h
  | 13, h => exact h
  | 14, h => exact h
  | 15, h => exact h
  | 16, h => exact h
  | 17, h => obtain ⟨A3, c3, he, hr⟩ := h; exact ⟨A3, c3, he, (hr.below hb).more hb.size⟩
  | 18, h => exact h
  | 19, h => exact h
  | 20, h => exact h
  | 21, h => exact h
  | 22, h => exact h
  | 23, h => exact h
  | 24, h => exact h
  | 25, h => exact h
  | (n + 26), _ => exact trivial

set_option maxHeartbeats 2000000 in
theorem octetplays_no (bts : List UInt8) (N c : Nat) (A : Option Addr) (M K : Nat) (B : Option Addr) (w : World) (hw : WidthsAt w) (h : ¬ (N ≤ 100 ∧ M ≤ 40)) :
    Calls Tryd.prog 7 #[.slice A N c, .slice B M K] w fun e w' => e = .returned (.bool true) ∧ Below w.heap.size w w' := by
  have HWK := Lib.hid (works_any w hw)
  by_cases h1 : N ≤ 100
  · have g1 : decide ((100 : Int) < N) = false := decide_eq_false (by omega)
    have g2 : decide ((40 : Int) < M) = true := decide_eq_true (by omega)
    have g2' : decide (40 < M) = true := decide_eq_true (by omega)
    clear h hw
    go_enter Tryd.func7, Tryd.ntmps7
    go_wp2_with fail
    refine HWK.out.mono ?_
    rintro e w2 ⟨rfl, b2⟩
    go_wp2_with fail
    go_ret
    exact ⟨rfl, b2⟩
  · have g1 : decide ((100 : Int) < N) = true := decide_eq_true (by omega)
    have g1' : decide (100 < N) = true := decide_eq_true (by omega)
    clear h hw
    go_enter Tryd.func7, Tryd.ntmps7
    go_wp2_with fail
    refine HWK.out.mono ?_
    rintro e w2 ⟨rfl, b2⟩
    go_wp2_with fail
    go_ret
    exact ⟨rfl, b2⟩

set_option maxHeartbeats 40000000 in
theorem octetplays_yes (bts : List UInt8) (N c : Nat) (hN : bts.length = N) (A : Option Addr) (acts : List (Int × Int)) (M K : Nat) (hM : acts.length = M) (B : Option Addr) (w : World) (hb : Rd w w.heap.size A (bts.map b8)) (hl : Rd w w.heap.size B (ptC acts)) (hw : WidthsAt w) (hNc : N ≤ c ∧ c ≤ 9223372036854775807) (hMK : M ≤ K ∧ K ≤ 9223372036854775807) (hk : ∀ x ∈ acts, x.2 ≤ 9223372036854775807) (h1 : N ≤ 100) (h2 : M ≤ 40) :
    Calls Tryd.prog 7 #[.slice A N c, .slice B M K] w fun e w' => e = .returned (.bool true) ∧ Below w.heap.size w w' := by
  obtain ⟨i0, hi0, hz0, hz1, hz2⟩ := info_parts u8_info
  have HWA := Lib.hid (fun W (hB : Below w.heap.size w W) => hw.below hB)
  have HN := Lib.hid hN
  have HM := Lib.hid hM
  have HL := Lib.hid hl
  have HBT := Lib.hid hb
  have HK := Lib.hid hk
  obtain ⟨hNc1, hNc2⟩ := hNc
  clear hN hM hl hb hk hw
  go_enter Tryd.func7, Tryd.ntmps7
  go_upto_region 4 with (at_builtin; refine wpList_append_rd rfl (.tmp 31) (.tmp 32) _ rfl w.heap.size 5 i0 _ 1 1 Tryd.underlying23 hi0 hz0 hz1 hz2 rfl (by omega) (.slice (some ⟨w.heap.size, 0, none⟩) 0 0) 0 [] rfl (World.ownsRow_lit w #[] 0 (Nat.le_refl _) (by simp [maxLen]) (by simp)) N c (bts.map b8) rfl (by rw [List.length_map, HN.out]; omega) (HBT.out.alloc (Nat.le_refl _) _) (b8_one _) (by simp only [maxLen]; omega) (by omega) (by simp) ?_; intro v1 w2 ho1 hg1 ha1; simp only [Nat.zero_add, List.nil_append] at ho1; obtain ⟨A1, c1, rfl, q1, q2, q3, q4⟩ := own_row ho1; obtain ⟨qs, ql⟩ := own_soft ho1)
  have b2 : Below w.heap.size w w2 := ((Below.refl _ _).alloc (Nat.le_refl _) _).grown hg1 (by simp) (by simp [Value.ownBlock])
  have HQ := Lib.hid (And.intro q4 (And.intro ql (And.intro qs q3)))
  have HNW := Lib.hid (new_rs bts N HN.out A1 c1 w2.heap.size w2 q3 (by omega) (Nat.le_refl _))
  have HB2 := Lib.hid b2
  clear ho1 hg1 ha1 q1 q2 q3 q4 qs ql b2
  go_wp2_with fail
  refine HNW.out.mono ?_
  rintro e w3 ⟨g, A2, c2, rfl, n1, n2, n3, n4, n5, n6, n7⟩
  go_upto_region 6 with fail
  have hr4 : Rd (w3.alloc (.cells #[.slice A N c, .int .i64 0] 48)) (w3.alloc (.cells #[.slice A N c, .int .i64 0] 48)).heap.size A1 (bts.map b8) := (HQ.out.2.2.2.below (balloc n7 _)).more (balloc n7 (.cells #[.slice A N c, .int .i64 0] 48)).size
  have hs4 : Soft (w3.alloc (.cells #[.slice A N c, .int .i64 0] 48)) A1 := HQ.out.2.2.1.fr (p := fun _ => True) (Fr.of_below (balloc n7 _)) (fun a e => ⟨HQ.out.2.1 a e, trivial⟩)
  have HI0 := Lib.hid (show IncA A1 N (w3.alloc (.cells #[.slice A N c, .int .i64 0] 48)) (w3.alloc (.cells #[.slice A N c, .int .i64 0] 48)) by
    have h := IncA.start hr4 hs4
    rw [HN.out] at h
    exact h)
  have x7 := Blk.new w3 48 #[.slice A N c, .int .i64 0]
  have xg := n1.alloc (.cells #[.slice A N c, .int .i64 0] 48)
  have xr := n2.alloc (Nat.le_of_lt n1.lt) (.cells #[.slice A N c, .int .i64 0] 48)
  have hB4 : Below w.heap.size w (w3.alloc (.cells #[.slice A N c, .int .i64 0] 48)) := balloc (bnext HB2.out n7) _
  have hg7 : g < w3.heap.size := n1.lt
  clear hr4 hs4 HNW n1 n2
  generalize w3.heap.size = b7 at *
  generalize w3.alloc (.cells #[.slice A N c, .int .i64 0] 48) = w4 at *
  have HX := Lib.hid (And.intro x7 (And.intro xg (And.intro xr hB4)))
  have HS2 := Lib.hid HB2.out.size
  have HNN := Lib.hid (And.intro n3 (And.intro n4 (And.intro n5 n6)))
  clear x7 xg xr hB4 n3 n4 n5 n6 n7
  go_wp2_with fail
  go_loopw [8] (fun i wr => ∃ q : Nat, q ≤ N ∧ i = .int .i64 q ∧ IncA A1 N w4 wr) (fun i _ => N - (intOf i).toNat)
  case atStart => exact ⟨0, by omega, rfl, HI0.out⟩
  case round =>
    obtain ⟨q, hq, rfl, hI⟩ := hrel
    have HI := Lib.hid hI
    by_cases hlt : q < N
    · obtain ⟨b, off, z, he, hz, hf⟩ := hI.at hlt
      subst he
      have hi1 : (q : Int) < (N : Int) := by omega
      clear hI
      go_wp2_with fail
      go_roundw
      case rel => exact ⟨q + 1, by omega, by go_num, HI.out.step hlt _⟩
      case measure => simp [intOf]; omega
    obtain rfl : N = q := by omega
    clear hI hlt hq
    have hA1 : ∀ b, (b = g ∨ b = b7 ∨ w2.heap.size ≤ b ∨ b < w.heap.size) → ∀ a, A1 = some a → b ≠ a.block := fun b hb a e => by
      have := HQ.out.1 a e
      have := HQ.out.2.1 a e
      have := HNN.out.2.2.2
      rcases hb with h | h | h | h <;> omega
    have hC0 := HI.out.1.blk HX.out.1 (hA1 b7 (.inr (.inl rfl)))
    have hR0 : IsRdr wr g bts 0 := ⟨A2, c2, HI.out.1.blk HX.out.2.1 (hA1 g (.inl rfl)), HI.out.1.rd HX.out.2.2.1 (fun a e => hA1 _ (.inr (.inr (.inl (HNN.out.2.2.1 a e))))), HNN.out.1, HNN.out.2.1, by omega⟩
    have hB0 : Below w.heap.size w wr := HX.out.2.2.2.trans (HI.out.1.below HX.out.2.2.2.size (fun b hb => hA1 b (.inr (.inr (.inr hb)))))
    have HGE := Lib.hid (show w.heap.size ≤ g by have := HNN.out.2.2.2; have := HS2.out; omega)
    have HNG := Lib.hid (show b7 ≠ g by omega)
    have HLT := Lib.hid hg7
    clear hA1 HI HI0 HX HQ HNN HS2 HB2
    go_wp2_with fail
    go_loopw [9] (fun i wr => ∃ (m p : Nat), m ≤ M ∧ i = .int .i64 m ∧ IsRdr wr g bts p ∧ Blk wr b7 48 #[.slice A N c, .int .i64 p] ∧ Below w.heap.size w wr) (fun i _ => M - (intOf i).toNat)
    case atStart => exact ⟨0, 0, by omega, rfl, hR0, hC0, hB0⟩
    case round =>
      clear hR0 hC0 hB0
      obtain ⟨m, p, hm, rfl, hR, hC, hB⟩ := hrel
      have HR := Lib.hid hR
      have HC := Lib.hid hC
      have HB := Lib.hid hB
      by_cases hlt : m < M
      case neg =>
        obtain rfl : M = m := by omega
        clear hR hC hB
        go_wp2_with fail
        refine (take_nil 1 _).mono ?_
        rintro e w' ⟨rfl, rfl⟩
        go_wp2_with (first | (go_at_call 11; refine (num_any _ _).mono ?_; rintro e w' ⟨rfl, rfl⟩) | (go_at_call 20; refine (skip_nil 0 _).mono ?_; rintro e w' ⟨rfl, rfl⟩) | (go_at_call 22; refine (at_nil _).mono ?_; rintro e w' ⟨rfl, rfl⟩) | (go_at_call 16; refine (left_nil _).mono ?_; rintro e w' ⟨rfl, rfl⟩) | (go_at_call 21; refine (rest_nil _).mono ?_; rintro e w' ⟨rfl, rfl⟩))
        refine (works_any _ (HWA.out _ HB.out)).mono ?_
        rintro e w6 ⟨rfl, b6⟩
        go_wp2_with fail
        go_ret
        exact ⟨rfl, bnext HB.out b6⟩
      case pos =>
      have hml : m < acts.length := by have := HM.out; omega
      obtain ⟨⟨wh, k⟩, hx⟩ : ∃ x, acts[m]? = some x := ⟨_, List.getElem?_eq_getElem hml⟩
      obtain ⟨bb, off, rfl, hbb, hcell⟩ := rows_at ptL_len (by omega) HL.out hx
      have hkb : k ≤ 9223372036854775807 := HK.out _ (List.mem_of_getElem? hx)
      have hi1 : (m : Int) < (M : Int) := by omega
      have hpl : p ≤ bts.length := by obtain ⟨_, _, _, _, _, _, h⟩ := hR; exact h
      have hkeep : ∀ W, Below wr.heap.size wr W → COP b7 bb (off + m * 2) A N c p wh k W := fun W hW => by
        have a := hC.below hW hC.lt
        have hc : ∀ j u, (ptL (wh, k))[j]? = some u → W.cell? ⟨bb, off + m * 2 + j, none⟩ = some u := fun j u hu => by
          have h0 := hcell j u hu
          rw [← Nat.add_assoc] at h0
          have h1 := (hB.cell (p := ⟨bb, off + m * 2 + j, none⟩) hbb).trans h0
          exact (hW.cell (p := ⟨bb, off + m * 2 + j, none⟩) (cell_lt h1)).trans h1
        exact ⟨a.two, hc 0 _ rfl, hc 1 _ rfl⟩
      have HKP := Lib.hid hkeep
      have HT := Lib.hid (fun W (hW : Below wr.heap.size wr W) => by
        have h := rtake_any bts A c p k W ((HBT.out.below (bnext hB hW)).more (bnext hB hW).size) (by rw [HN.out]; exact hNc1) hNc2 hpl
        rw [HN.out] at h
        exact h)
      have HSK := Lib.hid (fun W (_ : Below wr.heap.size wr W) => by
        have h := rskip_any bts A c p k W (by rw [HN.out]; exact hNc1) hNc2 hpl hkb
        rw [HN.out] at h
        exact h)
      have HR7 := Lib.hid (fun (w5 : World) (q : Nat) (h : IsRdr w5 g bts q) (u v : Value) => show IsRdr ((w5.setCell ⟨b7, 0, none⟩ u).setCell ⟨b7, 1, none⟩ v) g bts q from h.fr (P := fun b => b ≠ b7) ((Fr.refl.put 0 _).put 1 _) (by have := HLT.out; omega) (fun b hb => by have := HLT.out; omega))
      obtain ⟨⟨k0, k1⟩, k2, k3⟩ := hkeep wr (Below.refl _ _)
      have HKB := Lib.hid hkb
      have HRS := Lib.hid (restT_some g wr bts p hR (by have := HN.out; omega))
      clear hkeep hcell hx hml hR hC hB hkb
      have hSd : Below wr.heap.size wr wr.drew := below_drewN (Below.refl _ _) 1
      have hSa : Below wr.heap.size wr (wr.alloc (.cells #[.slice none 0 0, .int .i64 0] 48)).drew := below_drewN (balloc (Below.refl _ _) _) 1
      go_upto_block 4 with fail
      go_cut [10, 11, 12, 13, 14, 15, 16, 17, 18] from 50 to 158 (fun x10 x11 x12 x13 x14 x15 x16 x17 x18 wx => ∃ p' : Nat, IsRdr wx g bts p' ∧ Blk wx b7 48 #[.slice A N c, .int .i64 p'] ∧ Below w.heap.size w wx)
      case first =>
        by_cases hwh : wh = 0 ∨ wh = 1 ∨ wh = 2
        · rcases hwh with e | e | e
          · have t0 : (wh == 0) = true := by rw [beq_iff_eq]; exact e
            clear e
            go_wp2_with fail
            go_upto_region 22 with fail
            go_cut [10, 11, 12] from 50 to 158 (fun a b cc wx => ∃ bo : Nat, a = .pointer (some ⟨bo, 0, none⟩) ∧ b = .int .u32 (rdF bts p k).1 ∧ cc = .int .i64 (rdF bts p k).2 ∧ Blk wx bo 48 #[.slice A N c, .int .i64 (tookP bts p k)] ∧ wr.heap.size ≤ bo ∧ Below wr.heap.size wr wx)
            case first =>
              go_region_held3 (fun W => COP b7 bb (off + m * 2) A N c p wh k W) (first | exact HKP.out _ hSd | exact HKP.out _ hSa | exact HKP.out _ (bnext hSd b5) | exact HKP.out _ (bnext hSa b5) | exact HKP.out _ (balloc (bnext hSd b5) _) | exact HKP.out _ (((bnext hSa b5).setCell (p := ⟨wr.heap.size, 0, none⟩) (Nat.le_refl _) _).setCell (p := ⟨wr.heap.size, 1, none⟩) (Nat.le_refl _) _))
                (first
                | (go_at_call 18; (with_reducible refine (HT.out wr.drew hSd).mono ?_); rintro e w5 ⟨rfl, b5⟩)
                | (go_at_call 18; (with_reducible refine (HT.out (wr.alloc (.cells #[.slice none 0 0, .int .i64 0] 48)).drew hSa).mono ?_); rintro e w5 ⟨rfl, b5⟩; have z5 := zblk3 b5; have y0 := z5.cell 0; have y1 := z5.cell 1; have yf0 := z5.frozen 0; have yf1 := z5.frozen 1; simp only [List.getElem?_toArray, List.getElem?_cons_zero, List.getElem?_cons_succ] at y0 y1))
              all_goals
                go_wp2_with fail
                go_meet
                first
                | exact ⟨w5.heap.size, rfl, rfl, rfl, Blk.new w5 48 #[.slice A N c, .int .i64 (tookP bts p k)], Nat.le_trans hSd.size b5.size, balloc (bnext hSd b5) _⟩
                | exact ⟨wr.heap.size, rfl, rfl, rfl, zset3 z5 _ _, Nat.le_refl _, ((bnext hSa b5).setCell (p := ⟨wr.heap.size, 0, none⟩) (Nat.le_refl _) _).setCell (p := ⟨wr.heap.size, 1, none⟩) (Nat.le_refl _) _⟩
            case rest =>
              obtain ⟨bo, rfl, rfl, rfl, hO, hbo, hW⟩ := hcut
              have hR := (HR.out.fr (P := fun _ => True) (Fr.of_below hW) trivial (fun _ _ => trivial))
              have hC := HC.out.below hW HC.out.lt
              have hB := bnext HB.out hW
              have hcl := HKP.out _ hW
              obtain ⟨⟨k0, k1⟩, k2, k3⟩ := hcl
              have hb7l := HC.out.lt
              have hbog : bo ≠ g := by have := HR.out.lt; omega
              have hb7o : b7 ≠ bo := by omega
              clear k0 k1
              go_wp2_with fail
              refine (take_some g k _ bts p hR (HWA.out _ hB)).mono ?_
              rintro e w5 ⟨rfl, hR5, hgr⟩
              have f5 : Fr (fun b => b ≠ g) wc w5 := Fr.grown hgr (fun b hb e => hb (by injection e with e; exact e.symm))
              have hO5 := f5.blk hO hbog
              have hC5 := f5.blk hC HNG.out
              have hB5 : Below w.heap.size w w5 := hB.trans (f5.below hB.size (fun b hb => by have := HGE.out; omega))
              clear k2 k3 hR hC hB hO hgr f5
              obtain ⟨o0, o1⟩ := (show Blk w5 bo 48 #[_, _] from hO5).two
              obtain ⟨c0, c1⟩ := (show Blk w5 b7 48 #[_, _] from hC5).two
              have cf0 := hC5.frozen 0
              have cf1 := hC5.frozen 1
              have hR7 := HR7.out _ _ hR5 (.slice A N c) (.int .i64 (tookP bts p k))
              have hC7 := zset3 hC5 (.slice A N c) (.int .i64 (tookP bts p k))
              have hB7 : Below w.heap.size w ((w5.setCell ⟨b7, 0, none⟩ (.slice A N c)).setCell ⟨b7, 1, none⟩ (.int .i64 (tookP bts p k))) := (hB5.setCell (p := ⟨b7, 0, none⟩) (by have := HGE.out; have := HLT.out; show w.heap.size ≤ b7; omega) _).setCell (p := ⟨b7, 1, none⟩) (by have := HGE.out; have := HLT.out; show w.heap.size ≤ b7; omega) _
              have HF := Lib.hid (And.intro hR7 (And.intro hC7 hB7))
              clear hR7 hC7 hB7 hR5 hC5 hB5 hO5
              go_wp2_with (first | (go_at_call 11; refine (num_any _ _).mono ?_; rintro e w' ⟨rfl, rfl⟩))
              go_meet
              exact ⟨_, HF.out⟩
          · have t0 : (wh == 0) = false := by rw [beq_eq_false_iff_ne]; omega
            have t1 : (wh == 1) = true := by rw [beq_iff_eq]; exact e
            clear e
            go_wp2_with fail
            go_upto_region 22 with fail
            go_cut [10, 11, 12] from 50 to 158 (fun a b cc wx => ∃ bo : Nat, a = .pointer (some ⟨bo, 0, none⟩) ∧ b = .int .u32 (rdF bts p k).1 ∧ cc = .int .i64 (rdF bts p k).2 ∧ Blk wx bo 48 #[.slice A N c, .int .i64 (tookP bts p k)] ∧ wr.heap.size ≤ bo ∧ Below wr.heap.size wr wx)
            case first =>
              go_region_held3 (fun W => COP b7 bb (off + m * 2) A N c p wh k W) (first | exact HKP.out _ hSd | exact HKP.out _ hSa | exact HKP.out _ (bnext hSd b5) | exact HKP.out _ (bnext hSa b5) | exact HKP.out _ (balloc (bnext hSd b5) _) | exact HKP.out _ (((bnext hSa b5).setCell (p := ⟨wr.heap.size, 0, none⟩) (Nat.le_refl _) _).setCell (p := ⟨wr.heap.size, 1, none⟩) (Nat.le_refl _) _))
                (first
                | (go_at_call 18; (with_reducible refine (HT.out wr.drew hSd).mono ?_); rintro e w5 ⟨rfl, b5⟩)
                | (go_at_call 18; (with_reducible refine (HT.out (wr.alloc (.cells #[.slice none 0 0, .int .i64 0] 48)).drew hSa).mono ?_); rintro e w5 ⟨rfl, b5⟩; have z5 := zblk3 b5; have y0 := z5.cell 0; have y1 := z5.cell 1; have yf0 := z5.frozen 0; have yf1 := z5.frozen 1; simp only [List.getElem?_toArray, List.getElem?_cons_zero, List.getElem?_cons_succ] at y0 y1))
              all_goals
                go_wp2_with fail
                go_meet
                first
                | exact ⟨w5.heap.size, rfl, rfl, rfl, Blk.new w5 48 #[.slice A N c, .int .i64 (tookP bts p k)], Nat.le_trans hSd.size b5.size, balloc (bnext hSd b5) _⟩
                | exact ⟨wr.heap.size, rfl, rfl, rfl, zset3 z5 _ _, Nat.le_refl _, ((bnext hSa b5).setCell (p := ⟨wr.heap.size, 0, none⟩) (Nat.le_refl _) _).setCell (p := ⟨wr.heap.size, 1, none⟩) (Nat.le_refl _) _⟩
            case rest =>
              obtain ⟨bo, rfl, rfl, rfl, hO, hbo, hW⟩ := hcut
              have hR := (HR.out.fr (P := fun _ => True) (Fr.of_below hW) trivial (fun _ _ => trivial))
              have hC := HC.out.below hW HC.out.lt
              have hB := bnext HB.out hW
              have hcl := HKP.out _ hW
              obtain ⟨⟨k0, k1⟩, k2, k3⟩ := hcl
              have hb7l := HC.out.lt
              have hbog : bo ≠ g := by have := HR.out.lt; omega
              have hb7o : b7 ≠ bo := by omega
              clear k0 k1
              go_wp2_with fail
              refine (take_some g k _ bts p hR (HWA.out _ hB)).mono ?_
              rintro e w5 ⟨rfl, hR5, hgr⟩
              have f5 : Fr (fun b => b ≠ g) wc w5 := Fr.grown hgr (fun b hb e => hb (by injection e with e; exact e.symm))
              have hO5 := f5.blk hO hbog
              have hC5 := f5.blk hC HNG.out
              have hB5 : Below w.heap.size w w5 := hB.trans (f5.below hB.size (fun b hb => by have := HGE.out; omega))
              clear k2 k3 hR hC hB hO hgr f5
              obtain ⟨o0, o1⟩ := (show Blk w5 bo 48 #[_, _] from hO5).two
              obtain ⟨c0, c1⟩ := (show Blk w5 b7 48 #[_, _] from hC5).two
              have cf0 := hC5.frozen 0
              have cf1 := hC5.frozen 1
              have hR7 := HR7.out _ _ hR5 (.slice A N c) (.int .i64 (tookP bts p k))
              have hC7 := zset3 hC5 (.slice A N c) (.int .i64 (tookP bts p k))
              have hB7 : Below w.heap.size w ((w5.setCell ⟨b7, 0, none⟩ (.slice A N c)).setCell ⟨b7, 1, none⟩ (.int .i64 (tookP bts p k))) := (hB5.setCell (p := ⟨b7, 0, none⟩) (by have := HGE.out; have := HLT.out; show w.heap.size ≤ b7; omega) _).setCell (p := ⟨b7, 1, none⟩) (by have := HGE.out; have := HLT.out; show w.heap.size ≤ b7; omega) _
              have HF := Lib.hid (And.intro hR7 (And.intro hC7 hB7))
              clear hR7 hC7 hB7 hR5 hC5 hB5 hO5
              go_wp2_with (first | (go_at_call 11; refine (num_any _ _).mono ?_; rintro e w' ⟨rfl, rfl⟩))
              go_meet
              exact ⟨_, HF.out⟩
          · have t0 : (wh == 0) = false := by rw [beq_eq_false_iff_ne]; omega
            have t1 : (wh == 1) = false := by rw [beq_eq_false_iff_ne]; omega
            have t2 : (wh == 2) = true := by rw [beq_iff_eq]; exact e
            clear e
            go_wp2_with fail
            go_upto_region 22 with fail
            go_cut [10, 11, 12] from 50 to 158 (fun a b cc wx => ∃ bo : Nat, a = .pointer (some ⟨bo, 0, none⟩) ∧ b = .int .u32 (rdF bts p k).1 ∧ cc = .int .i64 (rdF bts p k).2 ∧ Blk wx bo 48 #[.slice A N c, .int .i64 (tookP bts p k)] ∧ wr.heap.size ≤ bo ∧ Below wr.heap.size wr wx)
            case first =>
              go_region_held3 (fun W => COP b7 bb (off + m * 2) A N c p wh k W) (first | exact HKP.out _ hSd | exact HKP.out _ hSa | exact HKP.out _ (bnext hSd b5) | exact HKP.out _ (bnext hSa b5) | exact HKP.out _ (balloc (bnext hSd b5) _) | exact HKP.out _ (((bnext hSa b5).setCell (p := ⟨wr.heap.size, 0, none⟩) (Nat.le_refl _) _).setCell (p := ⟨wr.heap.size, 1, none⟩) (Nat.le_refl _) _))
                (first
                | (go_at_call 18; (with_reducible refine (HT.out wr.drew hSd).mono ?_); rintro e w5 ⟨rfl, b5⟩)
                | (go_at_call 18; (with_reducible refine (HT.out (wr.alloc (.cells #[.slice none 0 0, .int .i64 0] 48)).drew hSa).mono ?_); rintro e w5 ⟨rfl, b5⟩; have z5 := zblk3 b5; have y0 := z5.cell 0; have y1 := z5.cell 1; have yf0 := z5.frozen 0; have yf1 := z5.frozen 1; simp only [List.getElem?_toArray, List.getElem?_cons_zero, List.getElem?_cons_succ] at y0 y1))
              all_goals
                go_wp2_with fail
                go_meet
                first
                | exact ⟨w5.heap.size, rfl, rfl, rfl, Blk.new w5 48 #[.slice A N c, .int .i64 (tookP bts p k)], Nat.le_trans hSd.size b5.size, balloc (bnext hSd b5) _⟩
                | exact ⟨wr.heap.size, rfl, rfl, rfl, zset3 z5 _ _, Nat.le_refl _, ((bnext hSa b5).setCell (p := ⟨wr.heap.size, 0, none⟩) (Nat.le_refl _) _).setCell (p := ⟨wr.heap.size, 1, none⟩) (Nat.le_refl _) _⟩
            case rest =>
              obtain ⟨bo, rfl, rfl, rfl, hO, hbo, hW⟩ := hcut
              have hR := (HR.out.fr (P := fun _ => True) (Fr.of_below hW) trivial (fun _ _ => trivial))
              have hC := HC.out.below hW HC.out.lt
              have hB := bnext HB.out hW
              have hcl := HKP.out _ hW
              obtain ⟨⟨k0, k1⟩, k2, k3⟩ := hcl
              have hb7l := HC.out.lt
              have hbog : bo ≠ g := by have := HR.out.lt; omega
              have hb7o : b7 ≠ bo := by omega
              clear k0 k1
              go_wp2_with fail
              refine (take_some g k _ bts p hR (HWA.out _ hB)).mono ?_
              rintro e w5 ⟨rfl, hR5, hgr⟩
              have f5 : Fr (fun b => b ≠ g) wc w5 := Fr.grown hgr (fun b hb e => hb (by injection e with e; exact e.symm))
              have hO5 := f5.blk hO hbog
              have hC5 := f5.blk hC HNG.out
              have hB5 : Below w.heap.size w w5 := hB.trans (f5.below hB.size (fun b hb => by have := HGE.out; omega))
              clear k2 k3 hR hC hB hO hgr f5
              obtain ⟨o0, o1⟩ := (show Blk w5 bo 48 #[_, _] from hO5).two
              obtain ⟨c0, c1⟩ := (show Blk w5 b7 48 #[_, _] from hC5).two
              have cf0 := hC5.frozen 0
              have cf1 := hC5.frozen 1
              have hR7 := HR7.out _ _ hR5 (.slice A N c) (.int .i64 (tookP bts p k))
              have hC7 := zset3 hC5 (.slice A N c) (.int .i64 (tookP bts p k))
              have hB7 : Below w.heap.size w ((w5.setCell ⟨b7, 0, none⟩ (.slice A N c)).setCell ⟨b7, 1, none⟩ (.int .i64 (tookP bts p k))) := (hB5.setCell (p := ⟨b7, 0, none⟩) (by have := HGE.out; have := HLT.out; show w.heap.size ≤ b7; omega) _).setCell (p := ⟨b7, 1, none⟩) (by have := HGE.out; have := HLT.out; show w.heap.size ≤ b7; omega) _
              have HF := Lib.hid (And.intro hR7 (And.intro hC7 hB7))
              clear hR7 hC7 hB7 hR5 hC5 hB5 hO5
              go_wp2_with (first | (go_at_call 11; refine (num_any _ _).mono ?_; rintro e w' ⟨rfl, rfl⟩))
              go_meet
              exact ⟨_, HF.out⟩
        by_cases h3 : wh = 3
        · have t0 : (wh == 0) = false := by rw [beq_eq_false_iff_ne]; omega
          have t1 : (wh == 1) = false := by rw [beq_eq_false_iff_ne]; omega
          have t2 : (wh == 2) = false := by rw [beq_eq_false_iff_ne]; omega
          have t3 : (wh == 3) = true := by rw [beq_iff_eq]; exact h3
          clear hwh h3
          go_wp2_with fail
          go_upto_region 28 with fail
          go_cut [15, 16] from 50 to 158 (fun a b wx => ∃ bo : Nat, a = .pointer (some ⟨bo, 0, none⟩) ∧ b = .int .i64 (skF bts p k).2 ∧ Blk wx bo 48 #[.slice A N c, .int .i64 (skF bts p k).1] ∧ wr.heap.size ≤ bo ∧ Below wr.heap.size wr wx)
          case first =>
            go_region_held3 (fun W => COP b7 bb (off + m * 2) A N c p wh k W) (first | exact HKP.out _ hSd | exact HKP.out _ hSa | exact HKP.out _ (bnext hSd b5) | exact HKP.out _ (bnext hSa b5) | exact HKP.out _ (balloc (bnext hSd b5) _) | exact HKP.out _ (((bnext hSa b5).setCell (p := ⟨wr.heap.size, 0, none⟩) (Nat.le_refl _) _).setCell (p := ⟨wr.heap.size, 1, none⟩) (Nat.le_refl _) _))
              (first
              | (go_at_call 19; (with_reducible refine (HSK.out wr.drew hSd).mono ?_); rintro e w5 ⟨rfl, b5⟩)
              | (go_at_call 19; (with_reducible refine (HSK.out (wr.alloc (.cells #[.slice none 0 0, .int .i64 0] 48)).drew hSa).mono ?_); rintro e w5 ⟨rfl, b5⟩; have z5 := zblk3 b5; have y0 := z5.cell 0; have y1 := z5.cell 1; have yf0 := z5.frozen 0; have yf1 := z5.frozen 1; simp only [List.getElem?_toArray, List.getElem?_cons_zero, List.getElem?_cons_succ] at y0 y1))
            all_goals
              go_wp2_with fail
              go_meet
              first
              | exact ⟨w5.heap.size, rfl, rfl, Blk.new w5 48 #[.slice A N c, .int .i64 (skF bts p k).1], Nat.le_trans hSd.size b5.size, balloc (bnext hSd b5) _⟩
              | exact ⟨wr.heap.size, rfl, rfl, zset3 z5 _ _, Nat.le_refl _, ((bnext hSa b5).setCell (p := ⟨wr.heap.size, 0, none⟩) (Nat.le_refl _) _).setCell (p := ⟨wr.heap.size, 1, none⟩) (Nat.le_refl _) _⟩
          case rest =>
            obtain ⟨bo, rfl, rfl, hO, hbo, hW⟩ := hcut
            have hR := (HR.out.fr (P := fun _ => True) (Fr.of_below hW) trivial (fun _ _ => trivial))
            have hC := HC.out.below hW HC.out.lt
            have hB := bnext HB.out hW
            have hcl := HKP.out _ hW
            obtain ⟨⟨k0, k1⟩, k2, k3⟩ := hcl
            have hb7l := HC.out.lt
            have hbog : bo ≠ g := by have := HR.out.lt; omega
            have hb7o : b7 ≠ bo := by omega
            obtain ⟨o0, o1⟩ := (show Blk wc bo 48 #[_, _] from hO).two
            obtain ⟨c0, c1⟩ := (show Blk wc b7 48 #[_, _] from hC).two
            have cf0 := hC.frozen 0
            have cf1 := hC.frozen 1
            have hR7 := HR7.out _ _ hR (.slice A N c) (.int .i64 (skF bts p k).1)
            have hC7 := zset3 hC (.slice A N c) (.int .i64 (skF bts p k).1)
            have f7 : Fr (fun b => b ≠ b7) wc ((wc.setCell ⟨b7, 0, none⟩ (.slice A N c)).setCell ⟨b7, 1, none⟩ (.int .i64 (skF bts p k).1)) := (Fr.refl.put 0 _).put 1 _
            have hB7 : Below w.heap.size w ((wc.setCell ⟨b7, 0, none⟩ (.slice A N c)).setCell ⟨b7, 1, none⟩ (.int .i64 (skF bts p k).1)) := hB.trans (f7.below hB.size (fun b hb => by have := HGE.out; have := HLT.out; omega))
            have k3' := f7.cell k3 (show bb ≠ b7 by have := HGE.out; have := HLT.out; omega)
            clear k0 k1 k2 k3 hR hC hB hO f7
            go_upto_region 30 with fail
            clear o0 o1 c0 c1 cf0 cf1
            generalize (wc.setCell ⟨b7, 0, none⟩ (.slice A N c)).setCell ⟨b7, 1, none⟩ (.int .i64 (skF bts p k).1) = w7 at *
            go_wp2_with fail
            refine (skip_some g k _ bts p hR7 HKB.out).mono ?_
            rintro e w5 ⟨rfl, hR5, hgr⟩
            have f5 : Fr (fun b => b ≠ g) w7 w5 := Fr.grown hgr (fun b hb e => hb (by injection e with e; exact e.symm))
            have HF := Lib.hid (And.intro hR5 (And.intro (f5.blk hC7 HNG.out) (hB7.trans (f5.below hB7.size (fun b hb => by have := HGE.out; omega)))))
            clear hR7 hC7 hB7 hR5 hgr f5 k3'
            go_wp2_with (first | (go_at_call 11; refine (num_any _ _).mono ?_; rintro e w' ⟨rfl, rfl⟩))
            go_meet
            exact ⟨_, HF.out⟩
        have t0 : (wh == 0) = false := by rw [beq_eq_false_iff_ne]; omega
        have t1 : (wh == 1) = false := by rw [beq_eq_false_iff_ne]; omega
        have t2 : (wh == 2) = false := by rw [beq_eq_false_iff_ne]; omega
        have t3 : (wh == 3) = false := by rw [beq_eq_false_iff_ne]; omega
        clear hwh h3
        go_wp2_with fail
        refine HRS.out.mono ?_
        rintro e w5 ⟨A3, c3, rfl, s1, s2, s3, s4, s5, s6, s7⟩
        have HI0 := Lib.hid (IncA.start s3 s6)
        have hpl3 : (bts.drop p).length ≤ 100 := by rw [List.length_drop, HN.out]; omega
        have HEND := Lib.hid (fun (W : World) (f : Fr (fun b => ∀ a, A3 = some a → b ≠ a.block) w5 W) => show ∃ p' : Nat, IsRdr W g bts p' ∧ Blk W b7 48 #[.slice A N c, .int .i64 p'] ∧ Below w.heap.size w W by
          have fI : Fr (fun b => b < wr.heap.size) w5 W := f.mono (fun b _ hb a e => by have := s5 a e; omega)
          have fW := (Fr.of_below (p := fun b => b < wr.heap.size) s4).trans fI
          have hgl := HR.out.lt
          exact ⟨p, HR.out.fr fW hgl (fun b hb => by omega), fW.blk HC.out HC.out.lt, HB.out.trans (fW.below HB.out.size (fun b hb => by have := HB.out.size; omega))⟩)
        clear s1 s2 s3 s4 s5 s6 s7 k0 k1 k2 k3
        generalize (bts.drop p).length = pl at *
        go_wp2_with fail
        go_loopw [18] (fun i wq => ∃ q : Nat, q ≤ pl ∧ i = .int .i64 q ∧ IncA A3 pl w5 wq) (fun i _ => pl - (intOf i).toNat)
        case atStart => exact ⟨0, by omega, rfl, HI0.out⟩
        case round =>
          obtain ⟨q, hq, rfl, hI⟩ := hrel
          have HI := Lib.hid hI
          by_cases hlt3 : q < pl
          · obtain ⟨b, off', z, he, hz, hf⟩ := hI.at hlt3
            subst he
            have hi3 : (q : Int) < (pl : Int) := by omega
            clear hI
            go_wp2_with fail
            go_roundw
            case rel => exact ⟨q + 1, by omega, by go_num, HI.out.step hlt3 _⟩
            case measure => simp [intOf]; omega
          · obtain rfl : pl = q := by omega
            clear hI
            go_wp2_with fail
            go_meet
            exact HEND.out _ HI.out.1
      case rest =>
        obtain ⟨p', hR, hC, hB⟩ := hcut
        obtain ⟨wq, hwq⟩ : ∃ x, x = wc := ⟨_, rfl⟩
        rw [← hwq] at hR hC hB ⊢
        clear hwq
        have HRB := Lib.hid (fun W (hW : Below wq.heap.size wq W) => hR.fr (P := fun _ => True) (Fr.of_below hW) trivial (fun _ _ => trivial))
        have hpl2 : p' ≤ bts.length := by obtain ⟨_, _, _, _, _, _, h⟩ := hR; exact h
        have hpN : p' ≤ N := by have := HN.out; omega
        have HBC := Lib.hid hB
        have HCC := Lib.hid hC
        obtain ⟨A4, hs4, hc4⟩ := cut_rest A N c p' hpN hNc1 hNc2 (w := w) bts HN.out HBT.out
        have hrs := fun W (hW : Below wq.heap.size wq W) => rest_some g W bts p' (HRB.out W hW) (by have := HN.out; omega)
        have hdl : (bts.drop p').length = N - p' := by rw [List.length_drop, HN.out]
        have hsub : ((bts.length - p' : Nat) : Int) = (N : Int) - (p' : Int) := by rw [HN.out]; omega
        have hlf := fun W (hW : Below wq.heap.size wq W) => (left_some g W bts p' (HRB.out W hW)).mono (R' := fun e w' => e = .returned (.int .i64 ((N : Int) - (p' : Int))) ∧ ∃ m, w' = W.drewN m) (fun e w' h => ⟨by rw [h.1, hsub], h.2⟩)
        generalize bts.drop p' = ds at *
        have HRS := Lib.hid hrs
        have HLF := Lib.hid hlf
        have HC4 := Lib.hid hc4
        have HDL := Lib.hid hdl
        have HAT := Lib.hid (fun W (hW : Below wq.heap.size wq W) => at_some g W bts p' (HRB.out W hW))
        have HCV := Lib.hid (fun W (B : Nat) A3 c3 (h : Rd W B A3 (ds.map b8)) => conv_rd (P := Tryd.prog) 23 9 5 Tryd.underlying23 Tryd.underlying5 Tryd.underlying9 c3 h)
        have hss := str_same ds
        have hc1 := (show Blk wq b7 48 #[_, _] from hC).two.2
        have HC1 := Lib.hid (fun W (hW : Below wq.heap.size wq W) => show W.cell? ⟨b7, 1, none⟩ = some (.int .i64 p') ∧ (convert 23 9 (.slice A4 (N - p') (c - p'))).run Tryd.prog W = .ok (.string (str ds)) W from
          ⟨(hW.cell (p := ⟨b7, 1, none⟩) (cell_lt hc1)).trans hc1, by have h := HCV.out W _ A4 (c - p') (HC4.out W (bnext HBC.out hW)); rw [HDL.out] at h; exact h⟩)
        have hne1 : ((p' : Int) != p') = false := by simp
        have hne2 : ((N : Int) - p' != (N : Int) - p') = false := by simp
        have hwr : IntKind.i64.wrap ((N : Int) - (p' : Int)) = (N : Int) - (p' : Int) := IntWalk.i64_in _ (by omega)
        have hd1 : Below wq.heap.size wq wq.drew := below_drewN (Below.refl _ _) 1
        have HDN := Lib.hid (fun q => (show Below wq.heap.size wq (wq.drewN q) from below_drewN (Below.refl _ _) q))
        clear hR hB hc4 hdl hlf hrs hC hsub
        clear hd1 HDN hc1
        go_upto_region 32 with fail
        go_cut [158] from 50 to 158 (fun r wx => r = .bool false ∧ Below wq.heap.size wq wx)
        case first =>
          rename_i J K' hJ hKM
          refine region_inv (lw := 133) (up := 158) (T := T32 g b7 N c p' A A4 ds) (by kernel_rfl) (by kernel_rfl) (by kernel_rfl) T32_stable ?steps ?last
          case steps =>
            refine ⟨?_, ?_, ?_, ?_, ?_, ?_, ?_, ?_, ?_, ?_, ?_, ?_, ?_, ?_, ?_, ?_, ?_, ?_, ?_, ?_, ?_, ?_, ?_, ?_, ?_, ?_, trivial⟩
            · refine step_val (.pointer (some ⟨g, 0, none⟩)) rfl (.free rfl) ?_
              intro u w' hB hd ρ hρ
              have e6 : ρ (.tmp 6) = .pointer (some ⟨g, 0, none⟩) := (hρ _).trans (fr_eval_out u 6 (.inl (by omega)) rfl)
              refine ⟨?_, rfl⟩
              rw [show (execOp ρ _).run Tryd.prog w' = .ok (.value (ρ (.tmp 6))) w' from rfl, e6]
            · refine step_call rfl (.free rfl) ?_
              intro u w' hB hd ρ hρ
              have q0 : u 133 = .pointer (some ⟨g, 0, none⟩) := hd ⟨0, .data⟩ (by simp) rfl _ _ rfl rfl
              have e133 : ρ (.tmp 133) = .pointer (some ⟨g, 0, none⟩) := (hρ _).trans ((fr_eval_in u 133 (by omega) (by omega) (of_decide_eq_true rfl)).trans q0)
              refine ⟨22, #[.pointer (some ⟨g, 0, none⟩)], exec_call rfl rfl (hρ _) (by simp only [List.map_toArray, List.map_cons, List.map_nil, e133]) (Go.Proofs.enters_of Tryd.func22 (by kernel_rfl) rfl _ _), (HAT.out w' hB).mono ?_⟩
              rintro e w2 ⟨rfl, rfl⟩
              exact ⟨_, rfl, rfl, Below.refl _ _⟩
            · refine step_val (.pointer (some ⟨b7, 1, none⟩)) rfl (.free rfl) ?_
              intro u w' hB hd ρ hρ
              have e7 : ρ (.tmp 7) = .pointer (some ⟨b7, 0, none⟩) := (hρ _).trans (fr_eval_out u 7 (.inl (by omega)) rfl)
              refine ⟨?_, rfl⟩
              clear hd hρ
              go_simp
            · refine step_val (.int .i64 (p' : Nat)) rfl (.free rfl) ?_
              intro u w' hB hd ρ hρ
              have q2 : u 135 = .pointer (some ⟨b7, 1, none⟩) := hd ⟨2, .data⟩ (by simp) rfl _ _ rfl rfl
              have e135 : ρ (.tmp 135) = .pointer (some ⟨b7, 1, none⟩) := (hρ _).trans ((fr_eval_in u 135 (by omega) (by omega) (of_decide_eq_true rfl)).trans q2)
              have hc := (HC1.out w' hB).1
              refine ⟨?_, rfl⟩
              clear hd hρ
              go_simp
            · refine step_val (.bool false) rfl (.free rfl) ?_
              intro u w' hB hd ρ hρ
              have q1 : u 134 = .int .i64 (p' : Nat) := hd ⟨1, .data⟩ (by simp) rfl _ _ rfl rfl
              have q3 : u 136 = .int .i64 (p' : Nat) := hd ⟨3, .data⟩ (by simp) rfl _ _ rfl rfl
              have e134 : ρ (.tmp 134) = .int .i64 (p' : Nat) := (hρ _).trans ((fr_eval_in u 134 (by omega) (by omega) (of_decide_eq_true rfl)).trans q1)
              have e136 : ρ (.tmp 136) = .int .i64 (p' : Nat) := (hρ _).trans ((fr_eval_in u 136 (by omega) (by omega) (of_decide_eq_true rfl)).trans q3)
              refine ⟨?_, rfl⟩
              clear hd hρ
              go_simp
            · refine step_val (.bool false) rfl (.free rfl) ?_
              intro u w' hB hd ρ hρ
              have q4 : u 137 = .bool false := hd ⟨4, .data⟩ (by simp) rfl _ _ rfl rfl
              have q1 : u 134 = .int .i64 (p' : Nat) := hd ⟨1, .chain⟩ (by simp) rfl _ _ rfl rfl
              have e137 : ρ (.tmp 137) = .bool false := (hρ _).trans ((fr_eval_in u 137 (by omega) (by omega) (of_decide_eq_true rfl)).trans q4)
              refine ⟨?_, rfl⟩
              rw [show (execOp ρ _).run Tryd.prog w' = .ok (.value (ρ (.tmp 137))) w' from rfl, e137]
            · refine step_val (.pointer (some ⟨g, 0, none⟩)) rfl (.guard 5 false _ 138 ⟨5, .guard⟩ rfl rfl rfl (by omega) (by omega) (of_decide_eq_true rfl) (by simp) rfl rfl (fun x w h => h)) ?_
              intro u w' hB hd ρ hρ
              have q5 : u 138 = .bool false := hd ⟨5, .guard⟩ (by simp) rfl _ _ rfl rfl
              have e6 : ρ (.tmp 6) = .pointer (some ⟨g, 0, none⟩) := (hρ _).trans (fr_eval_out u 6 (.inl (by omega)) rfl)
              refine ⟨?_, rfl⟩
              rw [show (execOp ρ _).run Tryd.prog w' = .ok (.value (ρ (.tmp 6))) w' from rfl, e6]
            · refine step_call rfl (.guard 5 false _ 138 ⟨5, .guard⟩ rfl rfl rfl (by omega) (by omega) (of_decide_eq_true rfl) (by simp) rfl rfl (fun x w h => h)) ?_
              intro u w' hB hd ρ hρ
              have q6 : u 139 = .pointer (some ⟨g, 0, none⟩) := hd ⟨6, .data⟩ (by simp) rfl _ _ rfl rfl
              have q5 : u 138 = .bool false := hd ⟨5, .chain⟩ (by simp) rfl _ _ rfl rfl
              have e139 : ρ (.tmp 139) = .pointer (some ⟨g, 0, none⟩) := (hρ _).trans ((fr_eval_in u 139 (by omega) (by omega) (of_decide_eq_true rfl)).trans q6)
              refine ⟨16, #[.pointer (some ⟨g, 0, none⟩)], exec_call rfl rfl (hρ _) (by simp only [List.map_toArray, List.map_cons, List.map_nil, e139]) (Go.Proofs.enters_of Tryd.func16 (by kernel_rfl) rfl _ _), (HLF.out w' hB).mono ?_⟩
              rintro e w2 ⟨rfl, m1, rfl⟩
              exact ⟨_, rfl, rfl, below_drewN (Below.refl _ _) _⟩
            · refine step_val (.slice A N c) rfl (.guard 5 false _ 138 ⟨5, .guard⟩ rfl rfl rfl (by omega) (by omega) (of_decide_eq_true rfl) (by simp) rfl rfl (fun x w h => h)) ?_
              intro u w' hB hd ρ hρ
              have q5 : u 138 = .bool false := hd ⟨5, .guard⟩ (by simp) rfl _ _ rfl rfl
              have e0 : ρ (.tmp 0) = .slice A N c := (hρ _).trans (fr_eval_out u 0 (.inl (by omega)) rfl)
              refine ⟨?_, rfl⟩
              rw [show (execOp ρ _).run Tryd.prog w' = .ok (.value (ρ (.tmp 0))) w' from rfl, e0]
            · refine step_val (.int .i64 (N : Nat)) rfl (.guard 5 false _ 138 ⟨5, .guard⟩ rfl rfl rfl (by omega) (by omega) (of_decide_eq_true rfl) (by simp) rfl rfl (fun x w h => h)) ?_
              intro u w' hB hd ρ hρ
              have q8 : u 141 = .slice A N c := hd ⟨8, .data⟩ (by simp) rfl _ _ rfl rfl
              have q5 : u 138 = .bool false := hd ⟨5, .guard⟩ (by simp) rfl _ _ rfl rfl
              have e141 : ρ (.tmp 141) = .slice A N c := (hρ _).trans ((fr_eval_in u 141 (by omega) (by omega) (of_decide_eq_true rfl)).trans q8)
              refine ⟨?_, rfl⟩
              clear hd hρ
              go_simp
            · refine step_val (.pointer (some ⟨b7, 1, none⟩)) rfl (.guard 5 false _ 138 ⟨5, .guard⟩ rfl rfl rfl (by omega) (by omega) (of_decide_eq_true rfl) (by simp) rfl rfl (fun x w h => h)) ?_
              intro u w' hB hd ρ hρ
              have q5 : u 138 = .bool false := hd ⟨5, .guard⟩ (by simp) rfl _ _ rfl rfl
              have e7 : ρ (.tmp 7) = .pointer (some ⟨b7, 0, none⟩) := (hρ _).trans (fr_eval_out u 7 (.inl (by omega)) rfl)
              refine ⟨?_, rfl⟩
              clear hd hρ
              go_simp
            · refine step_val (.int .i64 (p' : Nat)) rfl (.guard 5 false _ 138 ⟨5, .guard⟩ rfl rfl rfl (by omega) (by omega) (of_decide_eq_true rfl) (by simp) rfl rfl (fun x w h => h)) ?_
              intro u w' hB hd ρ hρ
              have q10 : u 143 = .pointer (some ⟨b7, 1, none⟩) := hd ⟨10, .data⟩ (by simp) rfl _ _ rfl rfl
              have q5 : u 138 = .bool false := hd ⟨5, .guard⟩ (by simp) rfl _ _ rfl rfl
              have e143 : ρ (.tmp 143) = .pointer (some ⟨b7, 1, none⟩) := (hρ _).trans ((fr_eval_in u 143 (by omega) (by omega) (of_decide_eq_true rfl)).trans q10)
              have hc := (HC1.out w' hB).1
              refine ⟨?_, rfl⟩
              clear hd hρ
              go_simp
            · refine step_val (.int .i64 ((N : Int) - (p' : Nat))) rfl (.guard 5 false _ 138 ⟨5, .guard⟩ rfl rfl rfl (by omega) (by omega) (of_decide_eq_true rfl) (by simp) rfl rfl (fun x w h => h)) ?_
              intro u w' hB hd ρ hρ
              have q9 : u 142 = .int .i64 (N : Nat) := hd ⟨9, .data⟩ (by simp) rfl _ _ rfl rfl
              have q11 : u 144 = .int .i64 (p' : Nat) := hd ⟨11, .data⟩ (by simp) rfl _ _ rfl rfl
              have q5 : u 138 = .bool false := hd ⟨5, .guard⟩ (by simp) rfl _ _ rfl rfl
              have e142 : ρ (.tmp 142) = .int .i64 (N : Nat) := (hρ _).trans ((fr_eval_in u 142 (by omega) (by omega) (of_decide_eq_true rfl)).trans q9)
              have e144 : ρ (.tmp 144) = .int .i64 (p' : Nat) := (hρ _).trans ((fr_eval_in u 144 (by omega) (by omega) (of_decide_eq_true rfl)).trans q11)
              refine ⟨?_, rfl⟩
              clear hd hρ
              go_simp
            · refine step_val (.bool false) rfl (.guard 5 false _ 138 ⟨5, .guard⟩ rfl rfl rfl (by omega) (by omega) (of_decide_eq_true rfl) (by simp) rfl rfl (fun x w h => h)) ?_
              intro u w' hB hd ρ hρ
              have q7 : u 140 = .int .i64 ((N : Int) - (p' : Nat)) := hd ⟨7, .data⟩ (by simp) rfl _ _ rfl rfl
              have q12 : u 145 = .int .i64 ((N : Int) - (p' : Nat)) := hd ⟨12, .data⟩ (by simp) rfl _ _ rfl rfl
              have q5 : u 138 = .bool false := hd ⟨5, .guard⟩ (by simp) rfl _ _ rfl rfl
              have e140 : ρ (.tmp 140) = .int .i64 ((N : Int) - (p' : Nat)) := (hρ _).trans ((fr_eval_in u 140 (by omega) (by omega) (of_decide_eq_true rfl)).trans q7)
              have e145 : ρ (.tmp 145) = .int .i64 ((N : Int) - (p' : Nat)) := (hρ _).trans ((fr_eval_in u 145 (by omega) (by omega) (of_decide_eq_true rfl)).trans q12)
              refine ⟨?_, rfl⟩
              clear hd hρ
              go_simp
            · refine step_val (.bool false) rfl (.free rfl) ?_
              intro u w' hB hd ρ hρ
              have q5 : u 138 = .bool false := hd ⟨5, .data⟩ (by simp) rfl _ _ rfl rfl
              have q13 : u 146 = .bool false := hd ⟨13, .data⟩ (by simp) rfl _ _ rfl rfl
              have e138 : ρ (.tmp 138) = .bool false := (hρ _).trans ((fr_eval_in u 138 (by omega) (by omega) (of_decide_eq_true rfl)).trans q5)
              have e146 : ρ (.tmp 146) = .bool false := (hρ _).trans ((fr_eval_in u 146 (by omega) (by omega) (of_decide_eq_true rfl)).trans q13)
              have c0 : ρ (.const (Value.bool true)) = Value.bool true := hρ _
              refine ⟨?_, rfl⟩
              clear hd hρ
              go_simp
            · refine step_val (.bool false) rfl (.free rfl) ?_
              intro u w' hB hd ρ hρ
              have q14 : u 147 = .bool false := hd ⟨14, .data⟩ (by simp) rfl _ _ rfl rfl
              have q7 : u 140 = .int .i64 ((N : Int) - (p' : Nat)) := hd ⟨7, .chain⟩ (by simp) rfl _ _ rfl rfl
              have e147 : ρ (.tmp 147) = .bool false := (hρ _).trans ((fr_eval_in u 147 (by omega) (by omega) (of_decide_eq_true rfl)).trans q14)
              refine ⟨?_, rfl⟩
              rw [show (execOp ρ _).run Tryd.prog w' = .ok (.value (ρ (.tmp 147))) w' from rfl, e147]
            · refine step_val (.pointer (some ⟨g, 0, none⟩)) rfl (.guard 15 false _ 148 ⟨15, .guard⟩ rfl rfl rfl (by omega) (by omega) (of_decide_eq_true rfl) (by simp) rfl rfl (fun x w h => h)) ?_
              intro u w' hB hd ρ hρ
              have q15 : u 148 = .bool false := hd ⟨15, .guard⟩ (by simp) rfl _ _ rfl rfl
              have e6 : ρ (.tmp 6) = .pointer (some ⟨g, 0, none⟩) := (hρ _).trans (fr_eval_out u 6 (.inl (by omega)) rfl)
              refine ⟨?_, rfl⟩
              rw [show (execOp ρ _).run Tryd.prog w' = .ok (.value (ρ (.tmp 6))) w' from rfl, e6]
            · refine step_call rfl (.guard 15 false _ 148 ⟨15, .guard⟩ rfl rfl rfl (by omega) (by omega) (of_decide_eq_true rfl) (by simp) rfl rfl (fun x w h => h)) ?_
              intro u w' hB hd ρ hρ
              have q16 : u 149 = .pointer (some ⟨g, 0, none⟩) := hd ⟨16, .data⟩ (by simp) rfl _ _ rfl rfl
              have q15 : u 148 = .bool false := hd ⟨15, .chain⟩ (by simp) rfl _ _ rfl rfl
              have e149 : ρ (.tmp 149) = .pointer (some ⟨g, 0, none⟩) := (hρ _).trans ((fr_eval_in u 149 (by omega) (by omega) (of_decide_eq_true rfl)).trans q16)
              refine ⟨21, #[.pointer (some ⟨g, 0, none⟩)], exec_call rfl rfl (hρ _) (by simp only [List.map_toArray, List.map_cons, List.map_nil, e149]) (Go.Proofs.enters_of Tryd.func21 (by kernel_rfl) rfl _ _), (HRS.out w' hB).mono ?_⟩
              rintro e w2 ⟨A3, c3, rfl, s1, s2, s3, s4, s5⟩
              exact ⟨_, rfl, ⟨A3, c3, rfl, s3⟩, s4⟩
            · refine step_val (.string (str ds)) rfl (.guard 15 false _ 148 ⟨15, .guard⟩ rfl rfl rfl (by omega) (by omega) (of_decide_eq_true rfl) (by simp) rfl rfl (fun x w h => h)) ?_
              intro u w' hB hd ρ hρ
              have q17 := hd ⟨17, .data⟩ (by simp) rfl _ _ rfl rfl
              have q15 : u 148 = .bool false := hd ⟨15, .guard⟩ (by simp) rfl _ _ rfl rfl
              have e150 : ρ (.tmp 150) = u 150 := (hρ _).trans (fr_eval_in u 150 (by omega) (by omega) (of_decide_eq_true rfl))
              obtain ⟨A3, c3, q17a, q17b⟩ := q17
              rw [q17a] at e150
              have hv := HCV.out w' _ A3 c3 q17b
              refine ⟨?_, rfl⟩
              clear hd hρ q17a
              go_simp
            · refine step_val (.slice A N c) rfl (.guard 15 false _ 148 ⟨15, .guard⟩ rfl rfl rfl (by omega) (by omega) (of_decide_eq_true rfl) (by simp) rfl rfl (fun x w h => h)) ?_
              intro u w' hB hd ρ hρ
              have q15 : u 148 = .bool false := hd ⟨15, .guard⟩ (by simp) rfl _ _ rfl rfl
              have e0 : ρ (.tmp 0) = .slice A N c := (hρ _).trans (fr_eval_out u 0 (.inl (by omega)) rfl)
              refine ⟨?_, rfl⟩
              rw [show (execOp ρ _).run Tryd.prog w' = .ok (.value (ρ (.tmp 0))) w' from rfl, e0]
            · refine step_val (.pointer (some ⟨b7, 1, none⟩)) rfl (.guard 15 false _ 148 ⟨15, .guard⟩ rfl rfl rfl (by omega) (by omega) (of_decide_eq_true rfl) (by simp) rfl rfl (fun x w h => h)) ?_
              intro u w' hB hd ρ hρ
              have q15 : u 148 = .bool false := hd ⟨15, .guard⟩ (by simp) rfl _ _ rfl rfl
              have e7 : ρ (.tmp 7) = .pointer (some ⟨b7, 0, none⟩) := (hρ _).trans (fr_eval_out u 7 (.inl (by omega)) rfl)
              refine ⟨?_, rfl⟩
              clear hd hρ
              go_simp
            · refine step_val (.int .i64 (p' : Nat)) rfl (.guard 15 false _ 148 ⟨15, .guard⟩ rfl rfl rfl (by omega) (by omega) (of_decide_eq_true rfl) (by simp) rfl rfl (fun x w h => h)) ?_
              intro u w' hB hd ρ hρ
              have q20 : u 153 = .pointer (some ⟨b7, 1, none⟩) := hd ⟨20, .data⟩ (by simp) rfl _ _ rfl rfl
              have q15 : u 148 = .bool false := hd ⟨15, .guard⟩ (by simp) rfl _ _ rfl rfl
              have e153 : ρ (.tmp 153) = .pointer (some ⟨b7, 1, none⟩) := (hρ _).trans ((fr_eval_in u 153 (by omega) (by omega) (of_decide_eq_true rfl)).trans q20)
              have hc := (HC1.out w' hB).1
              refine ⟨?_, rfl⟩
              clear hd hρ
              go_simp
            · refine step_val (.slice A4 (N - p') (c - p')) rfl (.guard 15 false _ 148 ⟨15, .guard⟩ rfl rfl rfl (by omega) (by omega) (of_decide_eq_true rfl) (by simp) rfl rfl (fun x w h => h)) ?_
              intro u w' hB hd ρ hρ
              have q19 : u 152 = .slice A N c := hd ⟨19, .data⟩ (by simp) rfl _ _ rfl rfl
              have q21 : u 154 = .int .i64 (p' : Nat) := hd ⟨21, .data⟩ (by simp) rfl _ _ rfl rfl
              have q15 : u 148 = .bool false := hd ⟨15, .guard⟩ (by simp) rfl _ _ rfl rfl
              have e152 : ρ (.tmp 152) = .slice A N c := (hρ _).trans ((fr_eval_in u 152 (by omega) (by omega) (of_decide_eq_true rfl)).trans q19)
              have e154 : ρ (.tmp 154) = .int .i64 (p' : Nat) := (hρ _).trans ((fr_eval_in u 154 (by omega) (by omega) (of_decide_eq_true rfl)).trans q21)
              refine ⟨?_, rfl⟩
              clear hd hρ
              go_simp
            · refine step_val (.string (str ds)) rfl (.guard 15 false _ 148 ⟨15, .guard⟩ rfl rfl rfl (by omega) (by omega) (of_decide_eq_true rfl) (by simp) rfl rfl (fun x w h => h)) ?_
              intro u w' hB hd ρ hρ
              have q22 : u 155 = .slice A4 (N - p') (c - p') := hd ⟨22, .data⟩ (by simp) rfl _ _ rfl rfl
              have q15 : u 148 = .bool false := hd ⟨15, .guard⟩ (by simp) rfl _ _ rfl rfl
              have e155 : ρ (.tmp 155) = .slice A4 (N - p') (c - p') := (hρ _).trans ((fr_eval_in u 155 (by omega) (by omega) (of_decide_eq_true rfl)).trans q22)
              have hv := (HC1.out w' hB).2
              refine ⟨?_, rfl⟩
              clear hd hρ
              go_simp
            · refine step_val (.bool false) rfl (.guard 15 false _ 148 ⟨15, .guard⟩ rfl rfl rfl (by omega) (by omega) (of_decide_eq_true rfl) (by simp) rfl rfl (fun x w h => h)) ?_
              intro u w' hB hd ρ hρ
              have q18 : u 151 = .string (str ds) := hd ⟨18, .data⟩ (by simp) rfl _ _ rfl rfl
              have q23 : u 156 = .string (str ds) := hd ⟨23, .data⟩ (by simp) rfl _ _ rfl rfl
              have q15 : u 148 = .bool false := hd ⟨15, .guard⟩ (by simp) rfl _ _ rfl rfl
              have e151 : ρ (.tmp 151) = .string (str ds) := (hρ _).trans ((fr_eval_in u 151 (by omega) (by omega) (of_decide_eq_true rfl)).trans q18)
              have e156 : ρ (.tmp 156) = .string (str ds) := (hρ _).trans ((fr_eval_in u 156 (by omega) (by omega) (of_decide_eq_true rfl)).trans q23)
              refine ⟨?_, rfl⟩
              clear hd hρ
              go_simp
            · refine step_val (.bool false) rfl (.free rfl) ?_
              intro u w' hB hd ρ hρ
              have q15 : u 148 = .bool false := hd ⟨15, .data⟩ (by simp) rfl _ _ rfl rfl
              have q24 : u 157 = .bool false := hd ⟨24, .data⟩ (by simp) rfl _ _ rfl rfl
              have e148 : ρ (.tmp 148) = .bool false := (hρ _).trans ((fr_eval_in u 148 (by omega) (by omega) (of_decide_eq_true rfl)).trans q15)
              have e157 : ρ (.tmp 157) = .bool false := (hρ _).trans ((fr_eval_in u 157 (by omega) (by omega) (of_decide_eq_true rfl)).trans q24)
              have c0 : ρ (.const (Value.bool true)) = Value.bool true := hρ _
              refine ⟨?_, rfl⟩
              clear hd hρ
              go_simp
          case last =>
            intro u w' hB hT
            have h25 : u 158 = .bool false := hT 25 _ _ rfl rfl
            show K' _ _
            refine hKM _ _ (Met.intro (hJ _ _ ?_))
            (repeat apply Exists.intro)
            exact ⟨⟨h25, hB⟩, rfl⟩
        case rest =>
          obtain ⟨rfl, hd5⟩ := hcut
          go_wp2_with fail
          go_roundw
          case rel => exact ⟨m + 1, p', by omega, by go_num, HRB.out _ hd5, HCC.out.below hd5 HCC.out.lt, bnext HBC.out hd5⟩
          case measure => simp [intOf]; omega
theorem octetplays_walk (bts : List UInt8) (N c : Nat) (hN : bts.length = N) (A : Option Addr) (acts : List (Int × Int)) (M K : Nat) (hM : acts.length = M) (B : Option Addr) (w : World) (hb : Rd w w.heap.size A (bts.map b8)) (hl : Rd w w.heap.size B (ptC acts)) (hw : WidthsAt w) (hNc : N ≤ c ∧ c ≤ 9223372036854775807) (hMK : M ≤ K ∧ K ≤ 9223372036854775807) (hk : ∀ x ∈ acts, x.2 ≤ 9223372036854775807) :
    Calls Tryd.prog 7 #[.slice A N c, .slice B M K] w fun e w' => e = .returned (.bool true) ∧ Below w.heap.size w w' := by
  by_cases h : N ≤ 100 ∧ M ≤ 40
  · exact octetplays_yes bts N c hN A acts M K hM B w hb hl hw hNc hMK hk h.1 h.2
  · exact octetplays_no bts N c A M K B w hw h
end Go.Proofs.YtonjaoabehkecaaDoor
