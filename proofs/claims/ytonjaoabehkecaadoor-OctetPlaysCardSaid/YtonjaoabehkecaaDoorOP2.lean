/- octet: bytes.Clone and Rest, whose bytes may be written; New, and where the bytes lie. -/
import Derived.Test.YtonjaoabehkecaaDoorOP1
import Derived.Test.YtonjaoabehkecaaDoorRowX
namespace Go.Proofs.YtonjaoabehkecaaDoor
set_option linter.unusedVariables false
set_option linter.unusedSimpArgs false
open Go.RowKit
set_option maxRecDepth 100000

/-- the cells of a block may be written -/
def Soft (w : World) (A : Option Addr) : Prop := ∀ a, A = some a → ∀ i, w.frozen? ⟨a.block, i, none⟩ = false
theorem Soft.none {w : World} : Soft w none := fun _ h => by cases h
theorem Soft.set {w : World} {A : Option Addr} (h : Soft w A) (p : Addr) (u : Value) : Soft (w.setCell p u) A := fun a e i => by
  rw [show (w.setCell p u).frozen? ⟨a.block, i, Option.none⟩ = w.frozen? ⟨a.block, i, Option.none⟩ from World.frozen?_setCell _ _ _ _]
  exact h a e i
theorem Soft.fr {w w' : World} {A : Option Addr} {p : Nat → Prop} (h : Soft w A) (hf : Fr p w w') (hA : ∀ a, A = some a → a.block < w.heap.size ∧ p a.block) : Soft w' A := fun a e i => by
  rw [hf.frozen (a := ⟨a.block, i, Option.none⟩) (hA a e).1 (hA a e).2]
  exact h a e i
/-- what is owned may be written -/
theorem own_soft {w : World} {base : Nat} {e : TypeId} {size n c : Nat} {A : Option Addr} {xs : List Value} (h : w.ownsRow base e size (.slice A n c) n xs) : Soft w A ∧ (∀ a, A = some a → a.block < w.heap.size) := by
  rcases h.2 with ⟨h1, _⟩ | ⟨g, cap, cur, h1, _, hh, _⟩
  · injection h1 with hA; subst hA; exact ⟨Soft.none, fun _ h => by cases h⟩
  · injection h1 with hA
    subst hA
    refine ⟨fun a e i => ?_, fun a e => ?_⟩
    · injection e with e; subst e
      simp [World.frozen?, hh]
    · injection e with e; subst e
      rcases Nat.lt_or_ge g w.heap.size with h | h
      · exact h
      · rw [Array.getElem?_eq_none h] at hh; cases hh
def GivesT (l : List UInt8) (w : World) (e : Ending) (w' : World) : Prop :=
  ∃ A c, e = .returned (.slice A l.length c) ∧ l.length ≤ c ∧ c ≤ maxLen ∧ Rd w' w'.heap.size A (l.map b8) ∧ Below w.heap.size w w' ∧ (∀ a, A = some a → w.heap.size ≤ a.block) ∧ Soft w' A ∧ (∀ a, A = some a → a.block < w'.heap.size)
theorem own_givesT {w w1 : World} {e : TypeId} {v : Value} {l : List UInt8} {n : Nat} (hn : l.length = n) (h : w1.ownsRow w.heap.size e 1 v n (l.map b8)) (hb : Below w.heap.size w w1) : GivesT l w (.returned v) w1 := by
  obtain ⟨A, c, rfl, q1, q2, q3, q4⟩ := own_row h
  obtain ⟨s1, s2⟩ := own_soft h
  subst hn
  exact ⟨A, c, rfl, q1, q2, q3, hb, q4, s1, s2⟩

set_option maxHeartbeats 400000 in
theorem cloneT_any (l : List UInt8) (n : Nat) (hn : l.length = n) (A : Option Addr) (c B : Nat) (w : World) (h : Rd w B A (l.map b8)) (hl : n ≤ 1048576) (hB : B ≤ w.heap.size) :
    Calls Tryd.prog 29 #[.slice A n c] w (GivesT l w) := by
  obtain ⟨i0, hi0, hz0, hz1, hz2⟩ := info_parts u8_info
  have HN := Lib.hid hn
  clear hn
  have hnil := fun w => Lib.run_eql_slice_nil (P := Tryd.prog) w 23 5 A n c 0 0 Tryd.underlying23
  cases A with
  | none =>
    have h0 : l = [] := by
      rcases Nat.eq_zero_or_pos (l.map b8).length with h0 | h0
      · exact List.eq_nil_of_length_eq_zero (by simpa using h0)
      · obtain ⟨_, _, hA, _⟩ := h h0; cases hA
    subst h0
    go_enter Tryd.func29, Tryd.ntmps29
    go_wp2
    go_ret
    exact ⟨none, 0, rfl, by simp, by simp, Rd.nil, Below.refl _ _, by simp, Soft.none, by simp⟩
  | some a =>
    go_enter Tryd.func29, Tryd.ntmps29
    go_wp2_with (at_builtin; refine wpList_append_rd rfl (.tmp 5) (.tmp 6) _ rfl w.heap.size 5 i0 _ 1 1 Tryd.underlying23 hi0 hz0 hz1 hz2 rfl (by omega) (.slice (some ⟨w.heap.size, 0, none⟩) 0 0) 0 [] rfl (World.ownsRow_lit w #[] 0 (Nat.le_refl _) (by simp [maxLen]) (by simp)) n c (l.map b8) rfl (by rw [List.length_map, HN.out]; omega) (h.alloc hB _) (b8_one l) (by simp only [maxLen]; omega) (by omega) (by simp) ?_; intro v1 w1 ho1 hg1 ha1)
    go_ret
    refine own_givesT HN.out (by simpa using ho1) (((Below.refl _ _).alloc (Nat.le_refl _) _).grown hg1 (by simp) (by simp [Value.ownBlock]))


set_option maxHeartbeats 400000 in
theorem restT_some (g : Nat) (w : World) (l : List UInt8) (p : Nat) (h : IsRdr w g l p) (hl : l.length ≤ 1048576) :
    Calls Tryd.prog 21 #[.pointer (some ⟨g, 0, none⟩)] w (GivesT (l.drop p) w) := by
  have HR := Lib.hid h
  obtain ⟨A, c, hb, hr, hlc, hcm, hp⟩ := h
  unfold maxLen at hcm
  have h0 := hb.cell 0
  have h1 := hb.cell 1
  have h2 := hb.cell 2
  have hg := hb.lt
  simp at h0 h1 h2
  clear hb
  have hR : Rd w g (cutA A p (l.length - p)) ((l.drop p).map b8) := by
    unfold cutA
    by_cases h0 : l.length - p = 0
    · rw [List.drop_eq_nil_of_le (by omega)]; exact Rd.nil
    · rw [if_neg h0]
      have := hr.cut p (l.length - p) (by omega) (by simp; omega)
      rw [List.take_of_length_le (by simp)] at this
      rwa [List.map_drop]
  have hlen : (l.drop p).length = l.length - p := by simp
  generalize l.drop p = l' at *
  have HL := Lib.hid hlen
  clear hlen
  go_enter Tryd.func21, Tryd.ntmps21
  go_wp2_with (go_at_call 30; refine (none_some _ _ h2).mono ?_; rintro e w' ⟨rfl, rfl⟩)
  go_region_held3 (fun w' => w'.cell? ⟨g, 0, none⟩ = some (.slice A l.length c) ∧ w'.cell? ⟨g, 1, none⟩ = some (.int .i64 p)) (first | go_keep | exact ⟨(G4.cell hg).trans h0, (G4.cell hg).trans h1⟩)
    (first
    | (go_at_call 16; refine (left_some g _ l p ?_).mono ?_; exact HR.out; rintro e w' ⟨rfl, m, rfl⟩)
    | (go_at_call 28; refine (cut0_any _ _ _ _ _ _ (by omega) (by omega) (by omega)).mono ?_; rintro e w' ⟨rfl, rfl⟩)
    | (go_at_call 29; refine (cloneT_any l' _ HL.out _ _ g _ ?_ (by omega) ?_).mono ?_; exact hR; exact Nat.le_of_lt hg; rintro e w' ⟨A1, c1, rfl, G1, G2, G3, G4, G5, G6, G7⟩))
  go_wp2
  go_ret
  exact ⟨A1, c1, rfl, G1, G2, G3, below_of_drewN G4, G5, G6, G7⟩


set_option maxHeartbeats 400000 in
theorem new_rs (l : List UInt8) (n : Nat) (hn : l.length = n) (A : Option Addr) (c B : Nat) (w : World) (h : Rd w B A (l.map b8)) (hl : n ≤ 1048576) (hB : B ≤ w.heap.size) :
    Calls Tryd.prog 14 #[.slice A n c] w fun e w' => ∃ g A1 c1, e = .returned (.pointer (some ⟨g, 0, none⟩)) ∧ Blk w' g 67 #[.slice A1 l.length c1, .int .i64 ((0 : Nat) : Int), .bool true] ∧ Rd w' g A1 (l.map b8) ∧ l.length ≤ c1 ∧ c1 ≤ maxLen ∧ (∀ a, A1 = some a → w.heap.size ≤ a.block) ∧ w.heap.size ≤ g ∧ Below w.heap.size w w' := by
  have HN := Lib.hid hn
  clear hn
  go_enter Tryd.func14, Tryd.ntmps14
  go_wp2_with (go_at_call 29; refine (clone_any l _ HN.out _ _ _ _ h hl hB).mono ?_; rintro e w1 ⟨A1, c1, rfl, hc1, hm1, hr1, hb1, hx1⟩)
  go_ret
  exact ⟨_, A1, c1, rfl, Blk.new _ _ _, hr1.alloc (Nat.le_refl _) _, hc1, hm1, hx1, hb1.size, hb1.alloc hb1.size _⟩

/-- bytes of a list that are counted up, one by one: what lies elsewhere lies as it lay -/
def IncA (A : Option Addr) (n : Nat) (w wr : World) : Prop :=
  Fr (fun k => ∀ a, A = some a → k ≠ a.block) w wr ∧ (0 < n → ∃ b off, A = some ⟨b, off, none⟩ ∧ ∀ j, j < n → (∃ z : Int, wr.cell? ⟨b, off + j, none⟩ = some (.int .u8 z)) ∧ wr.frozen? ⟨b, off + j, none⟩ = false)
theorem IncA.start {w : World} {B : Nat} {A : Option Addr} {l : List UInt8} (h : Rd w B A (l.map b8)) (hs : Soft w A) : IncA A l.length w w := ⟨Fr.refl, fun h0 => by
  obtain ⟨b, off, e, _, hc⟩ := h (by simpa using h0)
  exact ⟨b, off, e, fun j hj => ⟨⟨(l[j].toNat : Int), hc j (b8 l[j]) (by simp [hj])⟩, hs _ e (off + j)⟩⟩⟩
theorem IncA.at {A : Option Addr} {n : Nat} {w wr : World} (h : IncA A n w wr) {c : Nat} (hc : c < n) : ∃ b off z, A = some ⟨b, off, none⟩ ∧ wr.cell? ⟨b, off + c, none⟩ = some (.int .u8 z) ∧ wr.frozen? ⟨b, off + c, none⟩ = false := by
  obtain ⟨b, off, e, h1⟩ := h.2 (by omega)
  obtain ⟨⟨z, hz⟩, hf⟩ := h1 c hc
  exact ⟨b, off, z, e, hz, hf⟩
theorem IncA.step {b off n : Nat} {w wr : World} (h : IncA (some ⟨b, off, none⟩) n w wr) {c : Nat} (hc : c < n) (z' : Int) : IncA (some ⟨b, off, none⟩) n w (wr.setCell ⟨b, off + c, none⟩ (.int .u8 z')) := by
  refine ⟨h.1.trans (Fr.set (a := ⟨b, off + c, none⟩) (fun k hk => hk ⟨b, off, none⟩ rfl) _), fun h0 => ⟨b, off, rfl, fun j hj => ?_⟩⟩
  obtain ⟨b', off', e, h1⟩ := h.2 h0
  injection e with e
  injection e with e1 e2
  subst e1 e2
  obtain ⟨⟨z, hz⟩, hf⟩ := h1 j hj
  refine ⟨?_, (World.frozen?_setCell _ _ _ _).trans hf⟩
  by_cases hjc : j = c
  · subst hjc
    exact ⟨z', World.cell?_setCell_same _ _ _ hz⟩
  · exact ⟨z, (World.cell?_setCell_other _ _ _ _ (fun e => by injection e with _ e; omega)).trans hz⟩
end Go.Proofs.YtonjaoabehkecaaDoor
