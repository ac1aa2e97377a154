/- face: the closures, Clone, New. -/
import Derived.Test.YtfgbliglgdkgpaaDoorFa5
namespace Go.Proofs.YtfgbliglgdkgpaaDoor
set_option linter.unusedVariables false
set_option linter.unusedSimpArgs false
open Go.RowKit
set_option maxRecDepth 100000

def apB (g f : Fc) : Bool := decide (standsF g.net f.net = 4)
/-- is the face at a place right, and apart from those ahead of it? -/
def okI (l : List Fc) (i : Nat) : Bool := match l[i]? with
  | some f => okF f && !(l.take i).any (fun g => !apB g f)
  | none => true
def okL (l : List Fc) : Bool := (List.range l.length).all (okI l)
def newE (l : List Fc) : Int := if 16 < l.length then 3 else if okL l then 0 else 2
theorem okI_at {l : List Fc} {i : Nat} {f : Fc} (h : l[i]? = some f) : okI l i = (okF f && !(l.take i).any (fun g => !apB g f)) := by unfold okI; rw [h]
theorem okL_no {l : List Fc} {i : Nat} (hi : i < l.length) (h : okI l i = false) : okL l = false := by
  cases hc : okL l with
  | false => rfl
  | true =>
    have := List.all_eq_true.1 hc i (List.mem_range.2 hi)
    rw [h] at this
    cases this
theorem okL_yes {l : List Fc} (h : ∀ i, i < l.length → okI l i = true) : okL l = true := List.all_eq_true.2 fun i hi => h i (List.mem_range.1 hi)
theorem okF_bounds {f : Fc} (h : okF f = true) : ∃ k : Nat, f.nl = k ∧ 1 ≤ k ∧ k ≤ 30 ∧ f.na % 2 ^ (32 - k) = 0 := by
  unfold okF at h
  simp at h
  obtain ⟨⟨⟨⟨⟨h0, h1⟩, h2⟩, _⟩, _⟩, _⟩ := h
  obtain ⟨k, hk, _, hz⟩ := okP_bounds (show okP (f.na, f.nl) = true from h0)
  exact ⟨k, hk, by omega, by omega, hz⟩

/-- New's closure: does a face's net touch that of the face in the box? -/
theorem newc_any (g f : Fc) (b : Nat) (w : World) (hg : fitF g) (hf : fitF f) (og : okF g = true) (of : okF f = true) (hb : Blk w b 35 (fcA f)) (hR : RelsAt w) :
    Calls Tryd.prog 33 #[.agg #[.int .u32 g.na, .int .i64 g.nl, .int .u32 g.ad, .bool g.up], .pointer (some ⟨b, 0, none⟩)] w fun e w' => e = .returned (.bool (!apB g f)) ∧ Below w.heap.size w w' := by
  obtain ⟨k, hk, _, hk2, hz⟩ := okF_bounds og
  obtain ⟨m, hm, _, hm2, hy⟩ := okF_bounds of
  obtain ⟨gna, gnl, gad, gup⟩ := g
  obtain ⟨fna, fnl, fad, fup⟩ := f
  simp only at hk hm hz hy
  subst hk hm
  simp only [fcA] at hb
  have HS := Lib.hid (fun W hR => stands_any gna k fna m W hg.1 hf.1 (by omega) (by omega) hz hy hR)
  have hB := hb.alloc (.cells #[.int .u32 gna, .int .i64 k, .int .u32 gad, .bool gup] 35)
  have HR := Lib.hid (hR.below (balloc (Below.refl _ w) (.cells #[.int .u32 gna, .int .i64 k, .int .u32 gad, .bool gup] 35)))
  have d0 := (hb).cell 0
  have d1 := (hb).cell 1
  simp only [List.getElem?_toArray, List.getElem?_cons_zero, List.getElem?_cons_succ] at d0 d1
  have hbl := hb.lt
  have hap : apB ⟨gna, k, gad, gup⟩ ⟨fna, m, fad, fup⟩ = decide (standsF (gna, (k : Int)) (fna, (m : Int)) = 4) := rfl
  rw [hap]
  clear hb hB hap hz hy og of hg hf hR
  generalize standsF (gna, (k : Int)) (fna, (m : Int)) = s at *
  have hs : (((s : Nat) : Int) != 4) = !decide (s = 4) := by
    by_cases h : s = 4
    · subst h; rfl
    · rw [decide_eq_false h]; simp; omega
  have HQ := Lib.hid hs
  clear hs
  go_enter Tryd.func33, Tryd.ntmps33
  go_wp2_with (go_at_call 34; refine (HS.out _ HR.out).mono ?_; rintro e w1 ⟨rfl, hb1⟩)
  go_ret
  rw [← HQ.out]
  exact ⟨rfl, bnext (balloc (Below.refl _ _) _) hb1⟩

/-- To's closure: is a face up, and the address in its net? -/
theorem toc_any (f : Fc) (a b : Nat) (w : World) (hf : fitF f) (ha : a < 4294967296) (hb : Blk w b 24 #[.int .u32 a]) :
    Calls Tryd.prog 41 #[.agg #[.int .u32 f.na, .int .i64 f.nl, .int .u32 f.ad, .bool f.up], .pointer (some ⟨b, 0, none⟩)] w fun e w' => e = .returned (.bool (f.up && hasF f.net a)) ∧ Below w.heap.size w w' := by
  obtain ⟨na, nl, ad, up⟩ := f
  have HH := Lib.hid (fun W => has_any na nl a W hf.1 ha)
  have d0 := hb.cell 0
  simp only [List.getElem?_toArray, List.getElem?_cons_zero] at d0
  have hbl := hb.lt
  show Calls _ _ _ _ fun e w' => e = .returned (.bool (up && hasF (na, nl) a)) ∧ Below w.heap.size w w'
  clear hb
  generalize hasF (na, nl) a = h at *
  cases up
  · go_enter Tryd.func41, Tryd.ntmps41
    go_wp2
    go_ret
    exact ⟨rfl, balloc (Below.refl _ _) _⟩
  · simp only [Bool.true_and]
    go_enter Tryd.func41, Tryd.ntmps41
    go_wp2_with (go_at_call 42; refine (HH.out _).mono ?_; rintro e w1 ⟨rfl, hb1⟩)
    go_ret
    exact ⟨rfl, bnext (balloc (Below.refl _ _) _) hb1⟩

/-- owns' closure: is an address the router's own one of a face? -/
theorem ownc_any (f : Fc) (a b : Nat) (w : World) (hb : Blk w b 24 #[.int .u32 a]) :
    Calls Tryd.prog 64 #[.agg #[.int .u32 f.na, .int .i64 f.nl, .int .u32 f.ad, .bool f.up], .pointer (some ⟨b, 0, none⟩)] w fun e w' => e = .returned (.bool (decide (f.ad = a))) ∧ Below w.heap.size w w' := by
  obtain ⟨na, nl, ad, up⟩ := f
  have d0 := hb.cell 0
  simp only [List.getElem?_toArray, List.getElem?_cons_zero] at d0
  have hbl := hb.lt
  have he : decide (ad = a) = ((ad : Int) == (a : Int)) := by
    by_cases h : ad = a
    · subst h; simp
    · rw [decide_eq_false h]; symm; rw [beq_eq_false_iff_ne]; omega
  show Calls _ _ _ _ fun e w' => e = .returned (.bool (decide (ad = a))) ∧ Below w.heap.size w w'
  rw [he]
  clear hb he
  cases hq : ((ad : Int) == (a : Int))
  all_goals
    go_enter Tryd.func64, Tryd.ntmps64
    go_wp2
    go_ret
    exact ⟨rfl, balloc (Below.refl _ _) _⟩

theorem fc_info : (Tryd.prog.info? 35).map (fun i => (i.zero, i.size, i.bytes)) = some (some (.agg #[.int .u32 0, .int .i64 0, .int .u32 0, .bool false]), 4, 24) := by kernel_rfl

set_option maxHeartbeats 400000 in
theorem fclone_any (l : List Fc) (n : Nat) (hn : l.length = n) (A : Option Addr) (c B : Nat) (w : World) (h : Rd w B A (fcC l)) (hl : n ≤ 1048576) (hB : B ≤ w.heap.size) :
    Calls Tryd.prog 35 #[.slice A n c] w fun e w' => ∃ v, e = .returned v ∧ w'.ownsRow w.heap.size 35 4 v n (fcC l) ∧ Below w.heap.size w w' := by
  obtain ⟨i0, hi0, hz0, hz1, hz2⟩ := info_parts fc_info
  have HN := Lib.hid hn
  clear hn
  have hnil := fun w => Lib.run_eql_slice_nil (P := Tryd.prog) w 22 35 A n c 0 0 Tryd.underlying22
  cases A with
  | none =>
    have h0 : l = [] := by
      rcases Nat.eq_zero_or_pos (fcC l).length with h0 | h0
      · rw [fcC_len] at h0; exact List.eq_nil_of_length_eq_zero (by omega)
      · obtain ⟨_, _, hA, _⟩ := h h0; cases hA
    subst h0
    have hn0 := HN.out
    simp at hn0
    subst hn0
    go_enter Tryd.func35, Tryd.ntmps35
    go_wp2
    go_ret
    exact ⟨_, rfl, World.ownsRow_nil _ _ _ _, Below.refl _ _⟩
  | some a =>
    go_enter Tryd.func35, Tryd.ntmps35
    go_wp2_with (at_builtin; refine wpList_append_rd rfl (.tmp 5) (.tmp 6) _ rfl w.heap.size 35 i0 _ 4 24 Tryd.underlying22 hi0 hz0 hz1 hz2 rfl (by omega) (.slice (some ⟨w.heap.size, 0, none⟩) 0 0) 0 [] rfl (World.ownsRow_lit w #[] 0 (Nat.le_refl _) (by simp [maxLen]) (by simp)) n c (fcC l) rfl (by rw [fcC_len, HN.out]) (h.alloc hB _) (fcC_one l) (by simp only [maxLen]; omega) (by omega) (by simp) ?_; intro v1 w1 ho1 hg1 ha1)
    go_ret
    simp only [Nat.zero_add, List.nil_append] at ho1
    exact ⟨_, rfl, ho1, ((Below.refl _ _).alloc (Nat.le_refl _) _).grown hg1 (by simp) (by simp [Value.ownBlock])⟩
set_option maxHeartbeats 400000 in
theorem lclone_any (l : List Fc) (n : Nat) (hn : l.length = n) (A : Option Addr) (c B : Nat) (w : World) (h : Rd w B A (fcC l)) (hl : n ≤ 1048576) (hB : B ≤ w.heap.size) :
    Calls Tryd.prog 49 #[.slice A n c] w fun e w' => ∃ v, e = .returned v ∧ w'.ownsRow w.heap.size 35 4 v n (fcC l) ∧ Below w.heap.size w w' := by
  obtain ⟨i0, hi0, hz0, hz1, hz2⟩ := info_parts fc_info
  have HN := Lib.hid hn
  clear hn
  have hnil := fun w => Lib.run_eql_slice_nil (P := Tryd.prog) w 75 35 A n c 0 0 Tryd.underlying75
  cases A with
  | none =>
    have h0 : l = [] := by
      rcases Nat.eq_zero_or_pos (fcC l).length with h0 | h0
      · rw [fcC_len] at h0; exact List.eq_nil_of_length_eq_zero (by omega)
      · obtain ⟨_, _, hA, _⟩ := h h0; cases hA
    subst h0
    have hn0 := HN.out
    simp at hn0
    subst hn0
    go_enter Tryd.func49, Tryd.ntmps49
    go_wp2
    go_ret
    exact ⟨_, rfl, World.ownsRow_nil _ _ _ _, Below.refl _ _⟩
  | some a =>
    go_enter Tryd.func49, Tryd.ntmps49
    go_wp2_with (at_builtin; refine wpList_append_rd rfl (.tmp 5) (.tmp 6) _ rfl w.heap.size 35 i0 _ 4 24 Tryd.underlying75 hi0 hz0 hz1 hz2 rfl (by omega) (.slice (some ⟨w.heap.size, 0, none⟩) 0 0) 0 [] rfl (World.ownsRow_lit w #[] 0 (Nat.le_refl _) (by simp [maxLen]) (by simp)) n c (fcC l) rfl (by rw [fcC_len, HN.out]) (h.alloc hB _) (fcC_one l) (by simp only [maxLen]; omega) (by omega) (by simp) ?_; intro v1 w1 ho1 hg1 ha1)
    go_ret
    simp only [Nat.zero_add, List.nil_append] at ho1
    exact ⟨_, rfl, ho1, ((Below.refl _ _).alloc (Nat.le_refl _) _).grown hg1 (by simp) (by simp [Value.ownBlock])⟩

/-- a list of faces comes in -/
structure Ls (w : World) (B : Nat) (A : Option Addr) (n c : Nat) (l : List Fc) : Prop where
  len : l.length = n
  cap : n ≤ c ∧ c ≤ 9223372036854775807
  rd : Rd w B A (fcC l)
  fit : ∀ f ∈ l, fitF f
/-- faces: where they lie -/
structure Fs (w : World) (n0 g : Nat) (v : Value) (l : List Fc) : Prop where
  blk : Blk w g 77 #[v, .bool true]
  own : w.ownsRow n0 35 4 v l.length (fcC l)
  ge : n0 ≤ g
  len : l.length ≤ 16
  fit : ∀ f ∈ l, fitF f
  apart : ∀ k, v.ownBlock = some k → k ≠ g
end Go.Proofs.YtfgbliglgdkgpaaDoor
